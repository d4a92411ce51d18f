/- The walks: each of these functions of the program computes what its plain function says: spec_l01In, spec_l01Field, spec_l01Numbers, spec_l05Code, spec_l01Mod, spec_CoefficientsOf, impl_IsField, impl_CoefficientsOf_1, impl_asked__impl_CoefficientsOf_1, impl_rest. -/
import Derived.Test.YthmfgkdhaookoaaProg
import Derived.Test.YthmfgkdhaookoaaD1
import Derived.WalkKit
import Derived.KernelRfl
import Derived.BigQuiet
import Derived.Deep.LoopGhost
import Derived.Laws.StructEq
namespace Go.Proofs.Ythmfgkdhaookoaa
open Go Go.RowKit
attribute [local go_sem] Oper.quiet Oper.quietAt Oper.quietUpon
attribute [local irreducible] wpList
set_option linter.unusedVariables false
set_option linter.unusedSimpArgs false

set_option maxHeartbeats 4000000 in
set_option maxRecDepth 100000 in
theorem spec_l01In.calls (K : Nat) (a0 : Int) (a1 : Int) (a2 : Int) (r0 : Bool) (w : World)  (h : spec_l01In.f K a0 a1 a2 = some (r0)) :
    Calls Try.prog 67 #[.int .i64 a0, .int .i64 a1, .int .i64 a2] w fun e w' => e = .returned (.bool r0) ∧ Up w w' := by
 have H : ((if decide (a1 ≤ a0) = true then some (decide (a0 ≤ a2)) else some false) : Option (Bool)) = some (r0) := h
 clear h
 by_cases c3 : (decide (a1 ≤ a0)) = true
 ·
  rw [if_pos c3] at H
  obtain rfl := Option.some.inj H
  go_enter Try.func67, Try.ntmps67
  refine wp_hide (fun Qf hQf => ?_)
  refine wp_seq_k (fun K1 hK1 => ?_)
  refine wp_region_lit ?_
  refine wpList_plain rfl (fun Ko hKo => ?_)
  go_simp
  refine hKo _ _ ?_
  clear hKo Ko
  try simp only [Act.put, nm1, nm2, nm3, i64_w]
  refine wpList_nil ?_
  (try simp only [Exit.then, Exit.inBlock, ↓reduceIte, Nat.reduceEqDiff])
  refine hK1 _ _ ?_
  refine wp_seq_k (fun K2 hK2 => ?_)
  refine wp_region_lit ?_
  refine wpList_plain rfl (fun Ko hKo => ?_)
  go_simp
  refine hKo _ _ ?_
  clear hKo Ko
  try simp only [Act.put, nm1, nm2, nm3, i64_w]
  refine wpList_plain rfl (fun Ko hKo => ?_)
  go_simp
  refine hKo _ _ ?_
  clear hKo Ko
  try simp only [Act.put, nm1, nm2, nm3, i64_w]
  refine wpList_plain rfl (fun Ko hKo => ?_)
  go_simp
  refine hKo _ _ ?_
  clear hKo Ko
  try simp only [Act.put, nm1, nm2, nm3, i64_w]
  refine wpList_plain rfl (fun Ko hKo => ?_)
  go_simp
  refine hKo _ _ ?_
  clear hKo Ko
  try simp only [Act.put, nm1, nm2, nm3, i64_w]
  refine wpList_step (fun Ko hKo => ?_)
  go_simp
  refine hKo _ _ ?_
  clear hKo Ko
  try simp only [Act.put, nm1, nm2, nm3, i64_w]
  refine wpList_step (fun Ko hKo => ?_)
  go_simp
  refine hKo _ _ ?_
  clear hKo Ko
  try simp only [Act.put, nm1, nm2, nm3, i64_w]
  refine wpList_step (fun Ko hKo => ?_)
  go_simp
  refine hKo _ _ ?_
  clear hKo Ko
  try simp only [Act.put, nm1, nm2, nm3, i64_w]
  refine wpList_plain rfl (fun Ko hKo => ?_)
  go_simp
  refine hKo _ _ ?_
  clear hKo Ko
  try simp only [Act.put, nm1, nm2, nm3, i64_w]
  refine wpList_plain rfl (fun Ko hKo => ?_)
  go_simp
  refine hKo _ _ ?_
  clear hKo Ko
  try simp only [Act.put, nm1, nm2, nm3, i64_w]
  refine wpList_nil ?_
  (try simp only [Exit.then, Exit.inBlock, ↓reduceIte, Nat.reduceEqDiff])
  refine hK2 _ _ ?_
  refine wp_ret ?_
  (try simp only [Exit.then, Exit.inBlock, ↓reduceIte, Nat.reduceEqDiff])
  refine hQf _ _ _ ?_
  exact bodyPost_ret (v := .bool (decide (a0 ≤ a2))) (by first | rfl | (simp [results, Try.results67, go_sem]; done) | (simp [results, Try.results67, go_sem]; rfl)) rfl ⟨rfl, (Up.refl _)⟩
 ·
  rw [if_neg c3] at H
  replace c3 := Bool.eq_false_iff.mpr c3
  obtain rfl := Option.some.inj H
  go_enter Try.func67, Try.ntmps67
  refine wp_hide (fun Qf hQf => ?_)
  refine wp_seq_k (fun K1 hK1 => ?_)
  refine wp_region_lit ?_
  refine wpList_plain rfl (fun Ko hKo => ?_)
  go_simp
  refine hKo _ _ ?_
  clear hKo Ko
  try simp only [Act.put, nm1, nm2, nm3, i64_w]
  refine wpList_nil ?_
  (try simp only [Exit.then, Exit.inBlock, ↓reduceIte, Nat.reduceEqDiff])
  refine hK1 _ _ ?_
  refine wp_seq_k (fun K2 hK2 => ?_)
  refine wp_region_lit ?_
  refine wpList_plain rfl (fun Ko hKo => ?_)
  go_simp
  refine hKo _ _ ?_
  clear hKo Ko
  try simp only [Act.put, nm1, nm2, nm3, i64_w]
  refine wpList_plain rfl (fun Ko hKo => ?_)
  go_simp
  refine hKo _ _ ?_
  clear hKo Ko
  try simp only [Act.put, nm1, nm2, nm3, i64_w]
  refine wpList_plain rfl (fun Ko hKo => ?_)
  go_simp
  refine hKo _ _ ?_
  clear hKo Ko
  try simp only [Act.put, nm1, nm2, nm3, i64_w]
  refine wpList_plain rfl (fun Ko hKo => ?_)
  go_simp
  refine hKo _ _ ?_
  clear hKo Ko
  try simp only [Act.put, nm1, nm2, nm3, i64_w]
  refine step_no rfl ?_
  simp only [Act.put, nm1, nm2, nm3, i64_w]
  refine step_no rfl ?_
  simp only [Act.put, nm1, nm2, nm3, i64_w]
  refine step_no rfl ?_
  simp only [Act.put, nm1, nm2, nm3, i64_w]
  refine wpList_plain rfl (fun Ko hKo => ?_)
  go_simp
  refine hKo _ _ ?_
  clear hKo Ko
  try simp only [Act.put, nm1, nm2, nm3, i64_w]
  refine wpList_plain rfl (fun Ko hKo => ?_)
  go_simp
  refine hKo _ _ ?_
  clear hKo Ko
  try simp only [Act.put, nm1, nm2, nm3, i64_w]
  refine wpList_nil ?_
  (try simp only [Exit.then, Exit.inBlock, ↓reduceIte, Nat.reduceEqDiff])
  refine hK2 _ _ ?_
  refine wp_ret ?_
  (try simp only [Exit.then, Exit.inBlock, ↓reduceIte, Nat.reduceEqDiff])
  refine hQf _ _ _ ?_
  exact bodyPost_ret (v := .bool false) (by first | rfl | (simp [results, Try.results67, go_sem]; done) | (simp [results, Try.results67, go_sem]; rfl)) rfl ⟨rfl, (Up.refl _)⟩

set_option maxHeartbeats 4000000 in
set_option maxRecDepth 100000 in
theorem spec_l01Field.calls (K : Nat) (a0 : Int) (r0 : Bool) (w : World)  (h : spec_l01Field.f K a0 = some (r0)) :
    Calls Try.prog 75 #[.int .i64 a0] w fun e w' => e = .returned (.bool r0) ∧ Up w w' := by
 have H : (((spec_l01In.f K a0 3 31).bind fun t4 => (if t4 = true then (spec_l01Field.l0 K a0 K 2) else some false)) : Option (Bool)) = some (r0) := h
 clear h
 replace H := Option.bind_eq_some_iff.mp H
 obtain ⟨t4, A5, H⟩ := H
 replace A5 := Aside0.mk A5
 try dsimp only at H
 by_cases c8 : (t4) = true
 ·
  rw [if_pos c8] at H
  subst c8
  go_enter Try.func75, Try.ntmps75
  refine wp_hide (fun Qf hQf => ?_)
  refine wp_seq_k (fun K1 hK1 => ?_)
  refine wp_region_lit ?_
  refine wpList_plain rfl (fun Ko hKo => ?_)
  go_simp
  refine hKo _ _ ?_
  clear hKo Ko
  try simp only [Act.put, nm1, nm2, nm3, i64_w]
  refine wpList_nil ?_
  (try simp only [Exit.then, Exit.inBlock, ↓reduceIte, Nat.reduceEqDiff])
  refine hK1 _ _ ?_
  refine wp_seq_k (fun K2 hK2 => ?_)
  refine wp_seq_k (fun K3 hK3 => ?_)
  refine wp_region_lit ?_
  refine wpList_plain rfl (fun Ko hKo => ?_)
  go_simp
  refine hKo _ _ ?_
  clear hKo Ko
  try simp only [Act.put, nm1, nm2, nm3, i64_w]
  refine step_call (wanted_none rfl) (by first | (go_simp; done) | (go_simp; rfl)) (spec_l01In.calls K a0 3 31 true w  A5.out) ?_
  rintro e w6 ⟨rfl, hu⟩
  have hu7 := Aside0.mk hu
  clear hu
  refine ⟨_, rfl, ?_⟩
  simp only [Act.put, nm1, nm2, nm3, i64_w]
  refine wpList_plain rfl (fun Ko hKo => ?_)
  go_simp
  refine hKo _ _ ?_
  clear hKo Ko
  try simp only [Act.put, nm1, nm2, nm3, i64_w]
  refine wpList_nil ?_
  (try simp only [Exit.then, Exit.inBlock, ↓reduceIte, Nat.reduceEqDiff])
  refine hK3 _ _ ?_
  refine wp_cond_false rfl ?_
  refine wp_skip ?_
  (try simp only [Exit.then, Exit.inBlock, ↓reduceIte, Nat.reduceEqDiff])
  refine hK2 _ _ ?_
  refine wp_seq_k (fun K9 hK9 => ?_)
  refine wp_seq_k (fun K10 hK10 => ?_)
  refine wp_region_lit ?_
  refine wpList_plain rfl (fun Ko hKo => ?_)
  go_simp
  refine hKo _ _ ?_
  clear hKo Ko
  try simp only [Act.put, nm1, nm2, nm3, i64_w]
  refine wpList_nil ?_
  (try simp only [Exit.then, Exit.inBlock, ↓reduceIte, Nat.reduceEqDiff])
  refine hK10 _ _ ?_
  refine wp_block ?_
  have HL15 := Aside0.mk H
  clear H
  go_loopg [3] K (fun kq v3 w' => ∃ (x11 : Int), v3 = .int .i64 x11 ∧ Aside0 (spec_l01Field.l0 K a0 kq x11 = some (r0)) ∧ Aside0 (kq ≤ K) ∧ Aside0 (Up w6 w') ∧ Aside0 (w6.heap.size ≤ w'.heap.size))
  case atStart => exact ⟨2, (by first | rfl | simp), HL15, ⟨Nat.le_refl _⟩, ⟨(Up.refl _)⟩, ⟨Nat.le_refl _⟩⟩
  case round =>
   rename_i J19 K20 hJ19 hK20
   obtain ⟨x11, rfl, HL18, hk17, hu13, hz14⟩ := hrel
   obtain ⟨w12, rfl⟩ : ∃ wo : World, wo = wr := ⟨_, rfl⟩
   obtain ⟨k16, rfl⟩ | rfl : (∃ k, gk = k + 1) ∨ gk = 0 := by rcases gk with _ | k; exact .inr rfl; exact .inl ⟨k, rfl⟩
   case inr => exact absurd HL18.out (by simp [spec_l01Field.l0])
   have H := HL18.out
   clear HL18
   rw [spec_l01Field.l0] at H
   by_cases c23 : (decide ((wrap64 (x11 * x11)) ≤ a0)) = true
   ·
    rw [if_pos c23] at H
    by_cases c26 : (x11 == 0) = true
    ·
     rw [if_pos c26] at H
     have c26n : (x11 != 0) = false := by rw [bne, c26]; rfl
     exact absurd H (by simp)
    ·
     rw [if_neg c26] at H
     replace c26 := Bool.eq_false_iff.mpr c26
     have c26n : (x11 != 0) = true := by rw [bne, c26]; rfl
     have c26p : ¬ x11 = 0 := fun e => by simp [e] at c26
     by_cases c27 : ((Int.tmod a0 x11) == 0) = true
     ·
      rw [if_pos c27] at H
      have c27n : ((Int.tmod a0 x11) != 0) = false := by rw [bne, c27]; rfl
      obtain rfl := Option.some.inj H
      refine wp_seq_k (fun K21 hK21 => ?_)
      refine wp_seq_k (fun K22 hK22 => ?_)
      refine wp_region_lit ?_
      refine wpList_plain rfl (fun Ko hKo => ?_)
      go_simp
      refine hKo _ _ ?_
      clear hKo Ko
      try simp only [Act.put, nm1, nm2, nm3, i64_w]
      refine wpList_plain rfl (fun Ko hKo => ?_)
      go_simp
      refine hKo _ _ ?_
      clear hKo Ko
      try simp only [Act.put, nm1, nm2, nm3, i64_w]
      refine wpList_plain rfl (fun Ko hKo => ?_)
      go_simp
      refine hKo _ _ ?_
      clear hKo Ko
      try simp only [Act.put, nm1, nm2, nm3, i64_w]
      refine wpList_plain rfl (fun Ko hKo => ?_)
      go_simp
      refine hKo _ _ ?_
      clear hKo Ko
      try simp only [Act.put, nm1, nm2, nm3, i64_w]
      refine wpList_plain rfl (fun Ko hKo => ?_)
      go_simp
      refine hKo _ _ ?_
      clear hKo Ko
      try simp only [Act.put, nm1, nm2, nm3, i64_w]
      refine wpList_nil ?_
      (try simp only [Exit.then, Exit.inBlock, ↓reduceIte, Nat.reduceEqDiff])
      refine hK22 _ _ ?_
      refine wp_cond_true rfl ?_
      refine wp_skip ?_
      (try simp only [Exit.then, Exit.inBlock, ↓reduceIte, Nat.reduceEqDiff])
      refine hK21 _ _ ?_
      refine wp_seq_k (fun K24 hK24 => ?_)
      refine wp_block ?_
      refine wp_seq_k (fun K25 hK25 => ?_)
      refine wp_region_lit ?_
      refine wpList_plain rfl (fun Ko hKo => ?_)
      go_simp
      refine hKo _ _ ?_
      clear hKo Ko
      try simp only [Act.put, nm1, nm2, nm3, i64_w]
      refine wpList_plain rfl (fun Ko hKo => ?_)
      go_simp
      refine hKo _ _ ?_
      clear hKo Ko
      try simp only [Act.put, nm1, nm2, nm3, i64_w]
      refine wpList_plain rfl (fun Ko hKo => ?_)
      go_simp
      refine hKo _ _ ?_
      clear hKo Ko
      try simp only [Act.put, nm1, nm2, nm3, i64_w]
      refine wpList_plain rfl (fun Ko hKo => ?_)
      go_simp
      refine hKo _ _ ?_
      clear hKo Ko
      try simp only [Act.put, nm1, nm2, nm3, i64_w]
      refine wpList_nil ?_
      (try simp only [Exit.then, Exit.inBlock, ↓reduceIte, Nat.reduceEqDiff])
      refine hK25 _ _ ?_
      refine wp_cond_true rfl ?_
      refine wp_seq_k (fun K28 hK28 => ?_)
      refine wp_region_lit ?_
      refine wpList_plain rfl (fun Ko hKo => ?_)
      go_simp
      refine hKo _ _ ?_
      clear hKo Ko
      try simp only [Act.put, nm1, nm2, nm3, i64_w]
      refine wpList_nil ?_
      (try simp only [Exit.then, Exit.inBlock, ↓reduceIte, Nat.reduceEqDiff])
      refine hK28 _ _ ?_
      refine wp_ret ?_
      (try simp only [Exit.then, Exit.inBlock, ↓reduceIte, Nat.reduceEqDiff])
      refine hQf _ _ _ ?_
      exact bodyPost_ret (v := .bool false) (by first | rfl | (simp [results, Try.results75, go_sem]; done) | (simp [results, Try.results75, go_sem]; rfl)) rfl ⟨rfl, (hu7.out.trans hu13.out)⟩
     ·
      rw [if_neg c27] at H
      replace c27 := Bool.eq_false_iff.mpr c27
      have c27n : ((Int.tmod a0 x11) != 0) = true := by rw [bne, c27]; rfl
      have c27p : ¬ (Int.tmod a0 x11) = 0 := fun e => by simp [e] at c27
      have HL29 := Aside0.mk H
      clear H
      refine wp_seq_k (fun K21 hK21 => ?_)
      refine wp_seq_k (fun K22 hK22 => ?_)
      refine wp_region_lit ?_
      refine wpList_plain rfl (fun Ko hKo => ?_)
      go_simp
      refine hKo _ _ ?_
      clear hKo Ko
      try simp only [Act.put, nm1, nm2, nm3, i64_w]
      refine wpList_plain rfl (fun Ko hKo => ?_)
      go_simp
      refine hKo _ _ ?_
      clear hKo Ko
      try simp only [Act.put, nm1, nm2, nm3, i64_w]
      refine wpList_plain rfl (fun Ko hKo => ?_)
      go_simp
      refine hKo _ _ ?_
      clear hKo Ko
      try simp only [Act.put, nm1, nm2, nm3, i64_w]
      refine wpList_plain rfl (fun Ko hKo => ?_)
      go_simp
      refine hKo _ _ ?_
      clear hKo Ko
      try simp only [Act.put, nm1, nm2, nm3, i64_w]
      refine wpList_plain rfl (fun Ko hKo => ?_)
      go_simp
      refine hKo _ _ ?_
      clear hKo Ko
      try simp only [Act.put, nm1, nm2, nm3, i64_w]
      refine wpList_nil ?_
      (try simp only [Exit.then, Exit.inBlock, ↓reduceIte, Nat.reduceEqDiff])
      refine hK22 _ _ ?_
      refine wp_cond_true rfl ?_
      refine wp_skip ?_
      (try simp only [Exit.then, Exit.inBlock, ↓reduceIte, Nat.reduceEqDiff])
      refine hK21 _ _ ?_
      refine wp_seq_k (fun K24 hK24 => ?_)
      refine wp_block ?_
      refine wp_seq_k (fun K25 hK25 => ?_)
      refine wp_region_lit ?_
      refine wpList_plain rfl (fun Ko hKo => ?_)
      go_simp
      refine hKo _ _ ?_
      clear hKo Ko
      try simp only [Act.put, nm1, nm2, nm3, i64_w]
      refine wpList_plain rfl (fun Ko hKo => ?_)
      go_simp
      refine hKo _ _ ?_
      clear hKo Ko
      try simp only [Act.put, nm1, nm2, nm3, i64_w]
      refine wpList_plain rfl (fun Ko hKo => ?_)
      go_simp
      refine hKo _ _ ?_
      clear hKo Ko
      try simp only [Act.put, nm1, nm2, nm3, i64_w]
      refine wpList_plain rfl (fun Ko hKo => ?_)
      go_simp
      refine hKo _ _ ?_
      clear hKo Ko
      try simp only [Act.put, nm1, nm2, nm3, i64_w]
      refine wpList_nil ?_
      (try simp only [Exit.then, Exit.inBlock, ↓reduceIte, Nat.reduceEqDiff])
      refine hK25 _ _ ?_
      refine wp_cond_false rfl ?_
      refine wp_skip ?_
      (try simp only [Exit.then, Exit.inBlock, ↓reduceIte, Nat.reduceEqDiff])
      refine hK24 _ _ ?_
      refine wp_region_lit ?_
      refine wpList_plain rfl (fun Ko hKo => ?_)
      go_simp
      refine hKo _ _ ?_
      clear hKo Ko
      try simp only [Act.put, nm1, nm2, nm3, i64_w]
      refine wpList_plain rfl (fun Ko hKo => ?_)
      go_simp
      refine hKo _ _ ?_
      clear hKo Ko
      try simp only [Act.put, nm1, nm2, nm3, i64_w]
      refine wpList_plain rfl (fun Ko hKo => ?_)
      go_simp
      refine hKo _ _ ?_
      clear hKo Ko
      try simp only [Act.put, nm1, nm2, nm3, i64_w]
      refine wpList_nil ?_
      (try simp only [Exit.then, Exit.inBlock, ↓reduceIte, Nat.reduceEqDiff])
      refine hK20 _ _ ?_
      go_roundg k16
      case measure => exact Nat.lt_succ_self _
      case rel => exact ⟨wrap64 (x11 + 1), (by first | rfl | simp), HL29, ⟨by have := hk17.out; omega⟩, ⟨hu13.out⟩, ⟨(Nat.le_trans (Nat.le_refl _) hz14.out)⟩⟩
   ·
    rw [if_neg c23] at H
    replace c23 := Bool.eq_false_iff.mpr c23
    obtain rfl := Option.some.inj H
    refine wp_seq_k (fun K21 hK21 => ?_)
    refine wp_seq_k (fun K22 hK22 => ?_)
    refine wp_region_lit ?_
    refine wpList_plain rfl (fun Ko hKo => ?_)
    go_simp
    refine hKo _ _ ?_
    clear hKo Ko
    try simp only [Act.put, nm1, nm2, nm3, i64_w]
    refine wpList_plain rfl (fun Ko hKo => ?_)
    go_simp
    refine hKo _ _ ?_
    clear hKo Ko
    try simp only [Act.put, nm1, nm2, nm3, i64_w]
    refine wpList_plain rfl (fun Ko hKo => ?_)
    go_simp
    refine hKo _ _ ?_
    clear hKo Ko
    try simp only [Act.put, nm1, nm2, nm3, i64_w]
    refine wpList_plain rfl (fun Ko hKo => ?_)
    go_simp
    refine hKo _ _ ?_
    clear hKo Ko
    try simp only [Act.put, nm1, nm2, nm3, i64_w]
    refine wpList_plain rfl (fun Ko hKo => ?_)
    go_simp
    refine hKo _ _ ?_
    clear hKo Ko
    try simp only [Act.put, nm1, nm2, nm3, i64_w]
    refine wpList_nil ?_
    (try simp only [Exit.then, Exit.inBlock, ↓reduceIte, Nat.reduceEqDiff])
    refine hK22 _ _ ?_
    refine wp_cond_false rfl ?_
    refine wp_exit ?_
    (try simp only [Exit.then, Exit.inBlock, ↓reduceIte, Nat.reduceEqDiff])
    refine hK9 _ _ ?_
    refine wp_seq_k (fun K30 hK30 => ?_)
    refine wp_region_lit ?_
    refine wpList_plain rfl (fun Ko hKo => ?_)
    go_simp
    refine hKo _ _ ?_
    clear hKo Ko
    try simp only [Act.put, nm1, nm2, nm3, i64_w]
    refine wpList_nil ?_
    (try simp only [Exit.then, Exit.inBlock, ↓reduceIte, Nat.reduceEqDiff])
    refine hK30 _ _ ?_
    refine wp_ret ?_
    (try simp only [Exit.then, Exit.inBlock, ↓reduceIte, Nat.reduceEqDiff])
    refine hQf _ _ _ ?_
    exact bodyPost_ret (v := .bool true) (by first | rfl | (simp [results, Try.results75, go_sem]; done) | (simp [results, Try.results75, go_sem]; rfl)) rfl ⟨rfl, (hu7.out.trans hu13.out)⟩
 ·
  rw [if_neg c8] at H
  replace c8 := Bool.eq_false_iff.mpr c8
  subst c8
  obtain rfl := Option.some.inj H
  go_enter Try.func75, Try.ntmps75
  refine wp_hide (fun Qf hQf => ?_)
  refine wp_seq_k (fun K1 hK1 => ?_)
  refine wp_region_lit ?_
  refine wpList_plain rfl (fun Ko hKo => ?_)
  go_simp
  refine hKo _ _ ?_
  clear hKo Ko
  try simp only [Act.put, nm1, nm2, nm3, i64_w]
  refine wpList_nil ?_
  (try simp only [Exit.then, Exit.inBlock, ↓reduceIte, Nat.reduceEqDiff])
  refine hK1 _ _ ?_
  refine wp_seq_k (fun K2 hK2 => ?_)
  refine wp_seq_k (fun K3 hK3 => ?_)
  refine wp_region_lit ?_
  refine wpList_plain rfl (fun Ko hKo => ?_)
  go_simp
  refine hKo _ _ ?_
  clear hKo Ko
  try simp only [Act.put, nm1, nm2, nm3, i64_w]
  refine step_call (wanted_none rfl) (by first | (go_simp; done) | (go_simp; rfl)) (spec_l01In.calls K a0 3 31 false w  A5.out) ?_
  rintro e w6 ⟨rfl, hu⟩
  have hu7 := Aside0.mk hu
  clear hu
  refine ⟨_, rfl, ?_⟩
  simp only [Act.put, nm1, nm2, nm3, i64_w]
  refine wpList_plain rfl (fun Ko hKo => ?_)
  go_simp
  refine hKo _ _ ?_
  clear hKo Ko
  try simp only [Act.put, nm1, nm2, nm3, i64_w]
  refine wpList_nil ?_
  (try simp only [Exit.then, Exit.inBlock, ↓reduceIte, Nat.reduceEqDiff])
  refine hK3 _ _ ?_
  refine wp_cond_true rfl ?_
  refine wp_seq_k (fun K31 hK31 => ?_)
  refine wp_region_lit ?_
  refine wpList_plain rfl (fun Ko hKo => ?_)
  go_simp
  refine hKo _ _ ?_
  clear hKo Ko
  try simp only [Act.put, nm1, nm2, nm3, i64_w]
  refine wpList_nil ?_
  (try simp only [Exit.then, Exit.inBlock, ↓reduceIte, Nat.reduceEqDiff])
  refine hK31 _ _ ?_
  refine wp_ret ?_
  (try simp only [Exit.then, Exit.inBlock, ↓reduceIte, Nat.reduceEqDiff])
  refine hQf _ _ _ ?_
  exact bodyPost_ret (v := .bool false) (by first | rfl | (simp [results, Try.results75, go_sem]; done) | (simp [results, Try.results75, go_sem]; rfl)) rfl ⟨rfl, hu7.out⟩

set_option maxHeartbeats 4000000 in
set_option maxRecDepth 100000 in
theorem spec_l01Numbers.calls (K : Nat) (a0 : Int) (a1_A : Option Addr) (a1_c : Nat) (a1 : List (Int)) (r0 : Int) (w : World) (ha1 : Rd eI w a1_A a1) (h : spec_l01Numbers.f K a0 a1 = some (r0)) :
    Calls Try.prog 49 #[.int .i64 a0, .slice a1_A a1.length a1_c] w fun e w' => e = .returned (.int .i64 r0) ∧ Up w w' := by
 have H : (((spec_l01Field.f K a0).bind fun t4 => (if t4 = true then (spec_l01Numbers.l0 K a0 a1 K 0) else some 1)) : Option (Int)) = some (r0) := h
 clear h
 replace H := Option.bind_eq_some_iff.mp H
 obtain ⟨t4, A5, H⟩ := H
 replace A5 := Aside0.mk A5
 try dsimp only at H
 by_cases c8 : (t4) = true
 ·
  rw [if_pos c8] at H
  subst c8
  go_enter Try.func49, Try.ntmps49
  refine wp_hide (fun Qf hQf => ?_)
  refine wp_seq_k (fun K1 hK1 => ?_)
  refine wp_region_lit ?_
  refine wpList_plain rfl (fun Ko hKo => ?_)
  go_simp
  refine hKo _ _ ?_
  clear hKo Ko
  try simp only [Act.put, nm1, nm2, nm3, i64_w]
  refine wpList_nil ?_
  (try simp only [Exit.then, Exit.inBlock, ↓reduceIte, Nat.reduceEqDiff])
  refine hK1 _ _ ?_
  refine wp_seq_k (fun K2 hK2 => ?_)
  refine wp_seq_k (fun K3 hK3 => ?_)
  refine wp_region_lit ?_
  refine wpList_plain rfl (fun Ko hKo => ?_)
  go_simp
  refine hKo _ _ ?_
  clear hKo Ko
  try simp only [Act.put, nm1, nm2, nm3, i64_w]
  refine step_call (wanted_none rfl) (by first | (go_simp; done) | (go_simp; rfl)) (spec_l01Field.calls K a0 true w  A5.out) ?_
  rintro e w6 ⟨rfl, hu⟩
  have hu7 := Aside0.mk hu
  clear hu
  refine ⟨_, rfl, ?_⟩
  simp only [Act.put, nm1, nm2, nm3, i64_w]
  refine wpList_plain rfl (fun Ko hKo => ?_)
  go_simp
  refine hKo _ _ ?_
  clear hKo Ko
  try simp only [Act.put, nm1, nm2, nm3, i64_w]
  refine wpList_nil ?_
  (try simp only [Exit.then, Exit.inBlock, ↓reduceIte, Nat.reduceEqDiff])
  refine hK3 _ _ ?_
  refine wp_cond_false rfl ?_
  refine wp_skip ?_
  (try simp only [Exit.then, Exit.inBlock, ↓reduceIte, Nat.reduceEqDiff])
  refine hK2 _ _ ?_
  refine wp_seq_k (fun K9 hK9 => ?_)
  refine wp_seq_k (fun K10 hK10 => ?_)
  refine wp_region_lit ?_
  refine wpList_plain rfl (fun Ko hKo => ?_)
  go_simp
  refine hKo _ _ ?_
  clear hKo Ko
  try simp only [Act.put, nm1, nm2, nm3, i64_w]
  refine wpList_nil ?_
  (try simp only [Exit.then, Exit.inBlock, ↓reduceIte, Nat.reduceEqDiff])
  refine hK10 _ _ ?_
  refine wp_block ?_
  have HL15 := Aside0.mk H
  clear H
  go_loopg [5] K (fun kq v5 w' => ∃ (x11 : Int), v5 = .int .i64 x11 ∧ Aside0 (spec_l01Numbers.l0 K a0 a1 kq x11 = some (r0)) ∧ Aside0 (kq ≤ K) ∧ Aside0 (Up w6 w') ∧ Aside0 (w6.heap.size ≤ w'.heap.size))
  case atStart => exact ⟨0, (by first | rfl | simp), HL15, ⟨Nat.le_refl _⟩, ⟨(Up.refl _)⟩, ⟨Nat.le_refl _⟩⟩
  case round =>
   rename_i J19 K20 hJ19 hK20
   obtain ⟨x11, rfl, HL18, hk17, hu13, hz14⟩ := hrel
   obtain ⟨w12, rfl⟩ : ∃ wo : World, wo = wr := ⟨_, rfl⟩
   obtain ⟨k16, rfl⟩ | rfl : (∃ k, gk = k + 1) ∨ gk = 0 := by rcases gk with _ | k; exact .inr rfl; exact .inl ⟨k, rfl⟩
   case inr => exact absurd HL18.out (by simp [spec_l01Numbers.l0])
   have H := HL18.out
   clear HL18
   rw [spec_l01Numbers.l0] at H
   by_cases c23 : (decide (x11 < (a1.length : Int))) = true
   ·
    rw [if_pos c23] at H
    replace H := Option.bind_eq_some_iff.mp H
    obtain ⟨t26, A27, H⟩ := H
    replace A27 := Aside0.mk A27
    try dsimp only at H
    replace H := Option.bind_eq_some_iff.mp H
    obtain ⟨t31, A32, H⟩ := H
    replace A32 := Aside0.mk A32
    try dsimp only at H
    by_cases c35 : (t31) = true
    ·
     rw [if_pos c35] at H
     subst c35
     have HL36 := Aside0.mk H
     clear H
     refine wp_seq_k (fun K21 hK21 => ?_)
     refine wp_seq_k (fun K22 hK22 => ?_)
     refine wp_region_lit ?_
     refine wpList_plain rfl (fun Ko hKo => ?_)
     go_simp
     refine hKo _ _ ?_
     clear hKo Ko
     try simp only [Act.put, nm1, nm2, nm3, i64_w]
     refine wpList_plain rfl (fun Ko hKo => ?_)
     go_simp
     refine hKo _ _ ?_
     clear hKo Ko
     try simp only [Act.put, nm1, nm2, nm3, i64_w]
     refine wpList_plain rfl (fun Ko hKo => ?_)
     go_simp
     refine hKo _ _ ?_
     clear hKo Ko
     try simp only [Act.put, nm1, nm2, nm3, i64_w]
     refine wpList_plain rfl (fun Ko hKo => ?_)
     go_simp
     refine hKo _ _ ?_
     clear hKo Ko
     try simp only [Act.put, nm1, nm2, nm3, i64_w]
     refine wpList_nil ?_
     (try simp only [Exit.then, Exit.inBlock, ↓reduceIte, Nat.reduceEqDiff])
     refine hK22 _ _ ?_
     refine wp_cond_true rfl ?_
     refine wp_skip ?_
     (try simp only [Exit.then, Exit.inBlock, ↓reduceIte, Nat.reduceEqDiff])
     refine hK21 _ _ ?_
     refine wp_seq_k (fun K24 hK24 => ?_)
     refine wp_block ?_
     refine wp_seq_k (fun K25 hK25 => ?_)
     refine wp_region_lit ?_
     refine wpList_plain rfl (fun Ko hKo => ?_)
     go_simp
     refine hKo _ _ ?_
     clear hKo Ko
     try simp only [Act.put, nm1, nm2, nm3, i64_w]
     refine wpList_plain rfl (fun Ko hKo => ?_)
     go_simp
     refine hKo _ _ ?_
     clear hKo Ko
     try simp only [Act.put, nm1, nm2, nm3, i64_w]
     refine step_index eI (T := 2) (wanted_none rfl) rfl (by kernel_rfl) (by kernel_rfl) rfl rfl rfl (ha1.up (hu7.out.trans hu13.out)) A27.out ?_
     intro ad28 hat he
     have he29 := Aside0.mk he
     have hat30 := Aside0.mk hat
     clear he hat
     simp only [Act.put, nm1, nm2, nm3, i64_w]
     have cl0 := he29.out 0 _ rfl
     rw [addr_add0] at cl0
     refine wpList_plain rfl (fun Ko hKo => ?_)
     go_simp
     refine hKo _ _ ?_
     clear hKo Ko
     clear cl0
     try simp only [Act.put, nm1, nm2, nm3, i64_w]
     refine wpList_plain rfl (fun Ko hKo => ?_)
     go_simp
     refine hKo _ _ ?_
     clear hKo Ko
     try simp only [Act.put, nm1, nm2, nm3, i64_w]
     refine wpList_plain rfl (fun Ko hKo => ?_)
     go_simp
     refine hKo _ _ ?_
     clear hKo Ko
     try simp only [Act.put, nm1, nm2, nm3, i64_w]
     refine step_call (wanted_none rfl) (by first | (go_simp; done) | (go_simp; rfl)) (spec_l01In.calls K t26 0 (wrap64 (a0 - 1)) true w12  A32.out) ?_
     rintro e w33 ⟨rfl, hu⟩
     have hu34 := Aside0.mk hu
     clear hu
     refine ⟨_, rfl, ?_⟩
     simp only [Act.put, nm1, nm2, nm3, i64_w]
     refine wpList_plain rfl (fun Ko hKo => ?_)
     go_simp
     refine hKo _ _ ?_
     clear hKo Ko
     try simp only [Act.put, nm1, nm2, nm3, i64_w]
     refine wpList_nil ?_
     (try simp only [Exit.then, Exit.inBlock, ↓reduceIte, Nat.reduceEqDiff])
     refine hK25 _ _ ?_
     refine wp_cond_false rfl ?_
     refine wp_skip ?_
     (try simp only [Exit.then, Exit.inBlock, ↓reduceIte, Nat.reduceEqDiff])
     refine hK24 _ _ ?_
     refine wp_region_lit ?_
     refine wpList_plain rfl (fun Ko hKo => ?_)
     go_simp
     refine hKo _ _ ?_
     clear hKo Ko
     try simp only [Act.put, nm1, nm2, nm3, i64_w]
     refine wpList_plain rfl (fun Ko hKo => ?_)
     go_simp
     refine hKo _ _ ?_
     clear hKo Ko
     try simp only [Act.put, nm1, nm2, nm3, i64_w]
     refine wpList_plain rfl (fun Ko hKo => ?_)
     go_simp
     refine hKo _ _ ?_
     clear hKo Ko
     try simp only [Act.put, nm1, nm2, nm3, i64_w]
     refine wpList_nil ?_
     (try simp only [Exit.then, Exit.inBlock, ↓reduceIte, Nat.reduceEqDiff])
     refine hK20 _ _ ?_
     go_roundg k16
     case measure => exact Nat.lt_succ_self _
     case rel => exact ⟨wrap64 (x11 + 1), (by first | rfl | simp), HL36, ⟨by have := hk17.out; omega⟩, ⟨(hu13.out.trans hu34.out)⟩, ⟨(Nat.le_trans ((Nat.le_trans (Nat.le_refl _) hz14.out)) hu34.out.size)⟩⟩
    ·
     rw [if_neg c35] at H
     replace c35 := Bool.eq_false_iff.mpr c35
     subst c35
     obtain rfl := Option.some.inj H
     refine wp_seq_k (fun K21 hK21 => ?_)
     refine wp_seq_k (fun K22 hK22 => ?_)
     refine wp_region_lit ?_
     refine wpList_plain rfl (fun Ko hKo => ?_)
     go_simp
     refine hKo _ _ ?_
     clear hKo Ko
     try simp only [Act.put, nm1, nm2, nm3, i64_w]
     refine wpList_plain rfl (fun Ko hKo => ?_)
     go_simp
     refine hKo _ _ ?_
     clear hKo Ko
     try simp only [Act.put, nm1, nm2, nm3, i64_w]
     refine wpList_plain rfl (fun Ko hKo => ?_)
     go_simp
     refine hKo _ _ ?_
     clear hKo Ko
     try simp only [Act.put, nm1, nm2, nm3, i64_w]
     refine wpList_plain rfl (fun Ko hKo => ?_)
     go_simp
     refine hKo _ _ ?_
     clear hKo Ko
     try simp only [Act.put, nm1, nm2, nm3, i64_w]
     refine wpList_nil ?_
     (try simp only [Exit.then, Exit.inBlock, ↓reduceIte, Nat.reduceEqDiff])
     refine hK22 _ _ ?_
     refine wp_cond_true rfl ?_
     refine wp_skip ?_
     (try simp only [Exit.then, Exit.inBlock, ↓reduceIte, Nat.reduceEqDiff])
     refine hK21 _ _ ?_
     refine wp_seq_k (fun K24 hK24 => ?_)
     refine wp_block ?_
     refine wp_seq_k (fun K25 hK25 => ?_)
     refine wp_region_lit ?_
     refine wpList_plain rfl (fun Ko hKo => ?_)
     go_simp
     refine hKo _ _ ?_
     clear hKo Ko
     try simp only [Act.put, nm1, nm2, nm3, i64_w]
     refine wpList_plain rfl (fun Ko hKo => ?_)
     go_simp
     refine hKo _ _ ?_
     clear hKo Ko
     try simp only [Act.put, nm1, nm2, nm3, i64_w]
     refine step_index eI (T := 2) (wanted_none rfl) rfl (by kernel_rfl) (by kernel_rfl) rfl rfl rfl (ha1.up (hu7.out.trans hu13.out)) A27.out ?_
     intro ad28 hat he
     have he29 := Aside0.mk he
     have hat30 := Aside0.mk hat
     clear he hat
     simp only [Act.put, nm1, nm2, nm3, i64_w]
     have cl0 := he29.out 0 _ rfl
     rw [addr_add0] at cl0
     refine wpList_plain rfl (fun Ko hKo => ?_)
     go_simp
     refine hKo _ _ ?_
     clear hKo Ko
     clear cl0
     try simp only [Act.put, nm1, nm2, nm3, i64_w]
     refine wpList_plain rfl (fun Ko hKo => ?_)
     go_simp
     refine hKo _ _ ?_
     clear hKo Ko
     try simp only [Act.put, nm1, nm2, nm3, i64_w]
     refine wpList_plain rfl (fun Ko hKo => ?_)
     go_simp
     refine hKo _ _ ?_
     clear hKo Ko
     try simp only [Act.put, nm1, nm2, nm3, i64_w]
     refine step_call (wanted_none rfl) (by first | (go_simp; done) | (go_simp; rfl)) (spec_l01In.calls K t26 0 (wrap64 (a0 - 1)) false w12  A32.out) ?_
     rintro e w33 ⟨rfl, hu⟩
     have hu34 := Aside0.mk hu
     clear hu
     refine ⟨_, rfl, ?_⟩
     simp only [Act.put, nm1, nm2, nm3, i64_w]
     refine wpList_plain rfl (fun Ko hKo => ?_)
     go_simp
     refine hKo _ _ ?_
     clear hKo Ko
     try simp only [Act.put, nm1, nm2, nm3, i64_w]
     refine wpList_nil ?_
     (try simp only [Exit.then, Exit.inBlock, ↓reduceIte, Nat.reduceEqDiff])
     refine hK25 _ _ ?_
     refine wp_cond_true rfl ?_
     refine wp_seq_k (fun K37 hK37 => ?_)
     refine wp_region_lit ?_
     refine wpList_plain rfl (fun Ko hKo => ?_)
     go_simp
     refine hKo _ _ ?_
     clear hKo Ko
     try simp only [Act.put, nm1, nm2, nm3, i64_w]
     refine wpList_nil ?_
     (try simp only [Exit.then, Exit.inBlock, ↓reduceIte, Nat.reduceEqDiff])
     refine hK37 _ _ ?_
     refine wp_ret ?_
     (try simp only [Exit.then, Exit.inBlock, ↓reduceIte, Nat.reduceEqDiff])
     refine hQf _ _ _ ?_
     exact bodyPost_ret (v := .int .i64 2) (by first | rfl | (simp [results, Try.results49, go_sem]; done) | (simp [results, Try.results49, go_sem]; rfl)) rfl ⟨rfl, ((hu7.out.trans hu13.out).trans hu34.out)⟩
   ·
    rw [if_neg c23] at H
    replace c23 := Bool.eq_false_iff.mpr c23
    obtain rfl := Option.some.inj H
    refine wp_seq_k (fun K21 hK21 => ?_)
    refine wp_seq_k (fun K22 hK22 => ?_)
    refine wp_region_lit ?_
    refine wpList_plain rfl (fun Ko hKo => ?_)
    go_simp
    refine hKo _ _ ?_
    clear hKo Ko
    try simp only [Act.put, nm1, nm2, nm3, i64_w]
    refine wpList_plain rfl (fun Ko hKo => ?_)
    go_simp
    refine hKo _ _ ?_
    clear hKo Ko
    try simp only [Act.put, nm1, nm2, nm3, i64_w]
    refine wpList_plain rfl (fun Ko hKo => ?_)
    go_simp
    refine hKo _ _ ?_
    clear hKo Ko
    try simp only [Act.put, nm1, nm2, nm3, i64_w]
    refine wpList_plain rfl (fun Ko hKo => ?_)
    go_simp
    refine hKo _ _ ?_
    clear hKo Ko
    try simp only [Act.put, nm1, nm2, nm3, i64_w]
    refine wpList_nil ?_
    (try simp only [Exit.then, Exit.inBlock, ↓reduceIte, Nat.reduceEqDiff])
    refine hK22 _ _ ?_
    refine wp_cond_false rfl ?_
    refine wp_exit ?_
    (try simp only [Exit.then, Exit.inBlock, ↓reduceIte, Nat.reduceEqDiff])
    refine hK9 _ _ ?_
    refine wp_seq_k (fun K38 hK38 => ?_)
    refine wp_region_lit ?_
    refine wpList_plain rfl (fun Ko hKo => ?_)
    go_simp
    refine hKo _ _ ?_
    clear hKo Ko
    try simp only [Act.put, nm1, nm2, nm3, i64_w]
    refine wpList_nil ?_
    (try simp only [Exit.then, Exit.inBlock, ↓reduceIte, Nat.reduceEqDiff])
    refine hK38 _ _ ?_
    refine wp_ret ?_
    (try simp only [Exit.then, Exit.inBlock, ↓reduceIte, Nat.reduceEqDiff])
    refine hQf _ _ _ ?_
    exact bodyPost_ret (v := .int .i64 0) (by first | rfl | (simp [results, Try.results49, go_sem]; done) | (simp [results, Try.results49, go_sem]; rfl)) rfl ⟨rfl, (hu7.out.trans hu13.out)⟩
 ·
  rw [if_neg c8] at H
  replace c8 := Bool.eq_false_iff.mpr c8
  subst c8
  obtain rfl := Option.some.inj H
  go_enter Try.func49, Try.ntmps49
  refine wp_hide (fun Qf hQf => ?_)
  refine wp_seq_k (fun K1 hK1 => ?_)
  refine wp_region_lit ?_
  refine wpList_plain rfl (fun Ko hKo => ?_)
  go_simp
  refine hKo _ _ ?_
  clear hKo Ko
  try simp only [Act.put, nm1, nm2, nm3, i64_w]
  refine wpList_nil ?_
  (try simp only [Exit.then, Exit.inBlock, ↓reduceIte, Nat.reduceEqDiff])
  refine hK1 _ _ ?_
  refine wp_seq_k (fun K2 hK2 => ?_)
  refine wp_seq_k (fun K3 hK3 => ?_)
  refine wp_region_lit ?_
  refine wpList_plain rfl (fun Ko hKo => ?_)
  go_simp
  refine hKo _ _ ?_
  clear hKo Ko
  try simp only [Act.put, nm1, nm2, nm3, i64_w]
  refine step_call (wanted_none rfl) (by first | (go_simp; done) | (go_simp; rfl)) (spec_l01Field.calls K a0 false w  A5.out) ?_
  rintro e w6 ⟨rfl, hu⟩
  have hu7 := Aside0.mk hu
  clear hu
  refine ⟨_, rfl, ?_⟩
  simp only [Act.put, nm1, nm2, nm3, i64_w]
  refine wpList_plain rfl (fun Ko hKo => ?_)
  go_simp
  refine hKo _ _ ?_
  clear hKo Ko
  try simp only [Act.put, nm1, nm2, nm3, i64_w]
  refine wpList_nil ?_
  (try simp only [Exit.then, Exit.inBlock, ↓reduceIte, Nat.reduceEqDiff])
  refine hK3 _ _ ?_
  refine wp_cond_true rfl ?_
  refine wp_seq_k (fun K39 hK39 => ?_)
  refine wp_region_lit ?_
  refine wpList_plain rfl (fun Ko hKo => ?_)
  go_simp
  refine hKo _ _ ?_
  clear hKo Ko
  try simp only [Act.put, nm1, nm2, nm3, i64_w]
  refine wpList_nil ?_
  (try simp only [Exit.then, Exit.inBlock, ↓reduceIte, Nat.reduceEqDiff])
  refine hK39 _ _ ?_
  refine wp_ret ?_
  (try simp only [Exit.then, Exit.inBlock, ↓reduceIte, Nat.reduceEqDiff])
  refine hQf _ _ _ ?_
  exact bodyPost_ret (v := .int .i64 1) (by first | rfl | (simp [results, Try.results49, go_sem]; done) | (simp [results, Try.results49, go_sem]; rfl)) rfl ⟨rfl, hu7.out⟩

set_option maxHeartbeats 4000000 in
set_option maxRecDepth 100000 in
theorem spec_l05Code.calls (K : Nat) (a0 : Int) (a1 : Int) (a2_A : Option Addr) (a2_c : Nat) (a2 : List (Int)) (r0 : Int) (w : World) (ha2 : Rd eI w a2_A a2) (h : spec_l05Code.f K a0 a1 a2 = some (r0)) :
    Calls Try.prog 42 #[.int .i64 a0, .int .i64 a1, .slice a2_A a2.length a2_c] w fun e w' => e = .returned (.int .i64 r0) ∧ Up w w' := by
 have H : (((spec_l01Numbers.f K a0 a2).bind fun t3 => (if (t3 == 0) = true then ((spec_l01In.f K a1 0 1000).bind fun t10 => (if t10 = true then some t3 else some 2)) else some t3)) : Option (Int)) = some (r0) := h
 clear h
 replace H := Option.bind_eq_some_iff.mp H
 obtain ⟨t3, A4, H⟩ := H
 replace A4 := Aside0.mk A4
 try dsimp only at H
 by_cases c9 : (t3 == 0) = true
 ·
  rw [if_pos c9] at H
  have c9n : (t3 != 0) = false := by rw [bne, c9]; rfl
  replace H := Option.bind_eq_some_iff.mp H
  obtain ⟨t10, A11, H⟩ := H
  replace A11 := Aside0.mk A11
  try dsimp only at H
  by_cases c14 : (t10) = true
  ·
   rw [if_pos c14] at H
   subst c14
   obtain rfl := Option.some.inj H
   go_enter Try.func42, Try.ntmps42
   refine wp_hide (fun Qf hQf => ?_)
   refine wp_seq_k (fun K1 hK1 => ?_)
   refine wp_region_lit ?_
   refine wpList_plain rfl (fun Ko hKo => ?_)
   go_simp
   refine hKo _ _ ?_
   clear hKo Ko
   try simp only [Act.put, nm1, nm2, nm3, i64_w]
   refine wpList_nil ?_
   (try simp only [Exit.then, Exit.inBlock, ↓reduceIte, Nat.reduceEqDiff])
   refine hK1 _ _ ?_
   refine wp_seq_k (fun K2 hK2 => ?_)
   refine wp_region_lit ?_
   refine wpList_plain rfl (fun Ko hKo => ?_)
   go_simp
   refine hKo _ _ ?_
   clear hKo Ko
   try simp only [Act.put, nm1, nm2, nm3, i64_w]
   refine wpList_plain rfl (fun Ko hKo => ?_)
   go_simp
   refine hKo _ _ ?_
   clear hKo Ko
   try simp only [Act.put, nm1, nm2, nm3, i64_w]
   refine step_call (wanted_none rfl) (by first | (go_simp; done) | (go_simp; rfl)) (spec_l01Numbers.calls K a0 a2_A a2_c a2 t3 w ha2 A4.out) ?_
   rintro e w5 ⟨rfl, hu⟩
   have hu6 := Aside0.mk hu
   clear hu
   refine ⟨_, rfl, ?_⟩
   simp only [Act.put, nm1, nm2, nm3, i64_w]
   refine wpList_plain rfl (fun Ko hKo => ?_)
   go_simp
   refine hKo _ _ ?_
   clear hKo Ko
   try simp only [Act.put, nm1, nm2, nm3, i64_w]
   refine wpList_nil ?_
   (try simp only [Exit.then, Exit.inBlock, ↓reduceIte, Nat.reduceEqDiff])
   refine hK2 _ _ ?_
   refine wp_seq_k (fun K7 hK7 => ?_)
   refine wp_seq_k (fun K8 hK8 => ?_)
   refine wp_region_lit ?_
   refine wpList_plain rfl (fun Ko hKo => ?_)
   go_simp
   refine hKo _ _ ?_
   clear hKo Ko
   try simp only [Act.put, nm1, nm2, nm3, i64_w]
   refine wpList_plain rfl (fun Ko hKo => ?_)
   go_simp
   refine hKo _ _ ?_
   clear hKo Ko
   try simp only [Act.put, nm1, nm2, nm3, i64_w]
   refine wpList_plain rfl (fun Ko hKo => ?_)
   go_simp
   refine hKo _ _ ?_
   clear hKo Ko
   try simp only [Act.put, nm1, nm2, nm3, i64_w]
   refine wpList_step (fun Ko hKo => ?_)
   go_simp
   refine hKo _ _ ?_
   clear hKo Ko
   try simp only [Act.put, nm1, nm2, nm3, i64_w]
   refine step_call rfl (by first | (go_simp; done) | (go_simp; rfl)) (spec_l01In.calls K a1 0 1000 true w5  A11.out) ?_
   rintro e w12 ⟨rfl, hu⟩
   have hu13 := Aside0.mk hu
   clear hu
   refine ⟨_, rfl, ?_⟩
   simp only [Act.put, nm1, nm2, nm3, i64_w]
   refine wpList_step (fun Ko hKo => ?_)
   go_simp
   refine hKo _ _ ?_
   clear hKo Ko
   try simp only [Act.put, nm1, nm2, nm3, i64_w]
   refine wpList_plain rfl (fun Ko hKo => ?_)
   go_simp
   refine hKo _ _ ?_
   clear hKo Ko
   try simp only [Act.put, nm1, nm2, nm3, i64_w]
   refine wpList_nil ?_
   (try simp only [Exit.then, Exit.inBlock, ↓reduceIte, Nat.reduceEqDiff])
   refine hK8 _ _ ?_
   refine wp_cond_false rfl ?_
   refine wp_skip ?_
   (try simp only [Exit.then, Exit.inBlock, ↓reduceIte, Nat.reduceEqDiff])
   refine hK7 _ _ ?_
   refine wp_seq_k (fun K15 hK15 => ?_)
   refine wp_region_lit ?_
   refine wpList_plain rfl (fun Ko hKo => ?_)
   go_simp
   refine hKo _ _ ?_
   clear hKo Ko
   try simp only [Act.put, nm1, nm2, nm3, i64_w]
   refine wpList_plain rfl (fun Ko hKo => ?_)
   go_simp
   refine hKo _ _ ?_
   clear hKo Ko
   try simp only [Act.put, nm1, nm2, nm3, i64_w]
   refine wpList_nil ?_
   (try simp only [Exit.then, Exit.inBlock, ↓reduceIte, Nat.reduceEqDiff])
   refine hK15 _ _ ?_
   refine wp_ret ?_
   (try simp only [Exit.then, Exit.inBlock, ↓reduceIte, Nat.reduceEqDiff])
   refine hQf _ _ _ ?_
   exact bodyPost_ret (v := .int .i64 t3) (by first | rfl | (simp [results, Try.results42, go_sem]; done) | (simp [results, Try.results42, go_sem]; rfl)) rfl ⟨rfl, (hu6.out.trans hu13.out)⟩
  ·
   rw [if_neg c14] at H
   replace c14 := Bool.eq_false_iff.mpr c14
   subst c14
   obtain rfl := Option.some.inj H
   go_enter Try.func42, Try.ntmps42
   refine wp_hide (fun Qf hQf => ?_)
   refine wp_seq_k (fun K1 hK1 => ?_)
   refine wp_region_lit ?_
   refine wpList_plain rfl (fun Ko hKo => ?_)
   go_simp
   refine hKo _ _ ?_
   clear hKo Ko
   try simp only [Act.put, nm1, nm2, nm3, i64_w]
   refine wpList_nil ?_
   (try simp only [Exit.then, Exit.inBlock, ↓reduceIte, Nat.reduceEqDiff])
   refine hK1 _ _ ?_
   refine wp_seq_k (fun K2 hK2 => ?_)
   refine wp_region_lit ?_
   refine wpList_plain rfl (fun Ko hKo => ?_)
   go_simp
   refine hKo _ _ ?_
   clear hKo Ko
   try simp only [Act.put, nm1, nm2, nm3, i64_w]
   refine wpList_plain rfl (fun Ko hKo => ?_)
   go_simp
   refine hKo _ _ ?_
   clear hKo Ko
   try simp only [Act.put, nm1, nm2, nm3, i64_w]
   refine step_call (wanted_none rfl) (by first | (go_simp; done) | (go_simp; rfl)) (spec_l01Numbers.calls K a0 a2_A a2_c a2 t3 w ha2 A4.out) ?_
   rintro e w5 ⟨rfl, hu⟩
   have hu6 := Aside0.mk hu
   clear hu
   refine ⟨_, rfl, ?_⟩
   simp only [Act.put, nm1, nm2, nm3, i64_w]
   refine wpList_plain rfl (fun Ko hKo => ?_)
   go_simp
   refine hKo _ _ ?_
   clear hKo Ko
   try simp only [Act.put, nm1, nm2, nm3, i64_w]
   refine wpList_nil ?_
   (try simp only [Exit.then, Exit.inBlock, ↓reduceIte, Nat.reduceEqDiff])
   refine hK2 _ _ ?_
   refine wp_seq_k (fun K7 hK7 => ?_)
   refine wp_seq_k (fun K8 hK8 => ?_)
   refine wp_region_lit ?_
   refine wpList_plain rfl (fun Ko hKo => ?_)
   go_simp
   refine hKo _ _ ?_
   clear hKo Ko
   try simp only [Act.put, nm1, nm2, nm3, i64_w]
   refine wpList_plain rfl (fun Ko hKo => ?_)
   go_simp
   refine hKo _ _ ?_
   clear hKo Ko
   try simp only [Act.put, nm1, nm2, nm3, i64_w]
   refine wpList_plain rfl (fun Ko hKo => ?_)
   go_simp
   refine hKo _ _ ?_
   clear hKo Ko
   try simp only [Act.put, nm1, nm2, nm3, i64_w]
   refine wpList_step (fun Ko hKo => ?_)
   go_simp
   refine hKo _ _ ?_
   clear hKo Ko
   try simp only [Act.put, nm1, nm2, nm3, i64_w]
   refine step_call rfl (by first | (go_simp; done) | (go_simp; rfl)) (spec_l01In.calls K a1 0 1000 false w5  A11.out) ?_
   rintro e w12 ⟨rfl, hu⟩
   have hu13 := Aside0.mk hu
   clear hu
   refine ⟨_, rfl, ?_⟩
   simp only [Act.put, nm1, nm2, nm3, i64_w]
   refine wpList_step (fun Ko hKo => ?_)
   go_simp
   refine hKo _ _ ?_
   clear hKo Ko
   try simp only [Act.put, nm1, nm2, nm3, i64_w]
   refine wpList_plain rfl (fun Ko hKo => ?_)
   go_simp
   refine hKo _ _ ?_
   clear hKo Ko
   try simp only [Act.put, nm1, nm2, nm3, i64_w]
   refine wpList_nil ?_
   (try simp only [Exit.then, Exit.inBlock, ↓reduceIte, Nat.reduceEqDiff])
   refine hK8 _ _ ?_
   refine wp_cond_true rfl ?_
   refine wp_region_lit ?_
   refine wpList_plain rfl (fun Ko hKo => ?_)
   go_simp
   refine hKo _ _ ?_
   clear hKo Ko
   try simp only [Act.put, nm1, nm2, nm3, i64_w]
   refine wpList_nil ?_
   (try simp only [Exit.then, Exit.inBlock, ↓reduceIte, Nat.reduceEqDiff])
   refine hK7 _ _ ?_
   refine wp_seq_k (fun K16 hK16 => ?_)
   refine wp_region_lit ?_
   refine wpList_plain rfl (fun Ko hKo => ?_)
   go_simp
   refine hKo _ _ ?_
   clear hKo Ko
   try simp only [Act.put, nm1, nm2, nm3, i64_w]
   refine wpList_plain rfl (fun Ko hKo => ?_)
   go_simp
   refine hKo _ _ ?_
   clear hKo Ko
   try simp only [Act.put, nm1, nm2, nm3, i64_w]
   refine wpList_nil ?_
   (try simp only [Exit.then, Exit.inBlock, ↓reduceIte, Nat.reduceEqDiff])
   refine hK16 _ _ ?_
   refine wp_ret ?_
   (try simp only [Exit.then, Exit.inBlock, ↓reduceIte, Nat.reduceEqDiff])
   refine hQf _ _ _ ?_
   exact bodyPost_ret (v := .int .i64 2) (by first | rfl | (simp [results, Try.results42, go_sem]; done) | (simp [results, Try.results42, go_sem]; rfl)) rfl ⟨rfl, (hu6.out.trans hu13.out)⟩
 ·
  rw [if_neg c9] at H
  replace c9 := Bool.eq_false_iff.mpr c9
  have c9n : (t3 != 0) = true := by rw [bne, c9]; rfl
  have c9p : ¬ t3 = 0 := fun e => by simp [e] at c9
  obtain rfl := Option.some.inj H
  go_enter Try.func42, Try.ntmps42
  refine wp_hide (fun Qf hQf => ?_)
  refine wp_seq_k (fun K1 hK1 => ?_)
  refine wp_region_lit ?_
  refine wpList_plain rfl (fun Ko hKo => ?_)
  go_simp
  refine hKo _ _ ?_
  clear hKo Ko
  try simp only [Act.put, nm1, nm2, nm3, i64_w]
  refine wpList_nil ?_
  (try simp only [Exit.then, Exit.inBlock, ↓reduceIte, Nat.reduceEqDiff])
  refine hK1 _ _ ?_
  refine wp_seq_k (fun K2 hK2 => ?_)
  refine wp_region_lit ?_
  refine wpList_plain rfl (fun Ko hKo => ?_)
  go_simp
  refine hKo _ _ ?_
  clear hKo Ko
  try simp only [Act.put, nm1, nm2, nm3, i64_w]
  refine wpList_plain rfl (fun Ko hKo => ?_)
  go_simp
  refine hKo _ _ ?_
  clear hKo Ko
  try simp only [Act.put, nm1, nm2, nm3, i64_w]
  refine step_call (wanted_none rfl) (by first | (go_simp; done) | (go_simp; rfl)) (spec_l01Numbers.calls K a0 a2_A a2_c a2 t3 w ha2 A4.out) ?_
  rintro e w5 ⟨rfl, hu⟩
  have hu6 := Aside0.mk hu
  clear hu
  refine ⟨_, rfl, ?_⟩
  simp only [Act.put, nm1, nm2, nm3, i64_w]
  refine wpList_plain rfl (fun Ko hKo => ?_)
  go_simp
  refine hKo _ _ ?_
  clear hKo Ko
  try simp only [Act.put, nm1, nm2, nm3, i64_w]
  refine wpList_nil ?_
  (try simp only [Exit.then, Exit.inBlock, ↓reduceIte, Nat.reduceEqDiff])
  refine hK2 _ _ ?_
  refine wp_seq_k (fun K7 hK7 => ?_)
  refine wp_seq_k (fun K8 hK8 => ?_)
  refine wp_region_lit ?_
  refine wpList_plain rfl (fun Ko hKo => ?_)
  go_simp
  refine hKo _ _ ?_
  clear hKo Ko
  try simp only [Act.put, nm1, nm2, nm3, i64_w]
  refine wpList_plain rfl (fun Ko hKo => ?_)
  go_simp
  refine hKo _ _ ?_
  clear hKo Ko
  try simp only [Act.put, nm1, nm2, nm3, i64_w]
  refine wpList_plain rfl (fun Ko hKo => ?_)
  go_simp
  refine hKo _ _ ?_
  clear hKo Ko
  try simp only [Act.put, nm1, nm2, nm3, i64_w]
  refine step_no rfl ?_
  simp only [Act.put, nm1, nm2, nm3, i64_w]
  refine step_no rfl ?_
  simp only [Act.put, nm1, nm2, nm3, i64_w]
  refine step_no rfl ?_
  simp only [Act.put, nm1, nm2, nm3, i64_w]
  refine wpList_plain rfl (fun Ko hKo => ?_)
  go_simp
  refine hKo _ _ ?_
  clear hKo Ko
  try simp only [Act.put, nm1, nm2, nm3, i64_w]
  refine wpList_nil ?_
  (try simp only [Exit.then, Exit.inBlock, ↓reduceIte, Nat.reduceEqDiff])
  refine hK8 _ _ ?_
  refine wp_cond_false rfl ?_
  refine wp_skip ?_
  (try simp only [Exit.then, Exit.inBlock, ↓reduceIte, Nat.reduceEqDiff])
  refine hK7 _ _ ?_
  refine wp_seq_k (fun K17 hK17 => ?_)
  refine wp_region_lit ?_
  refine wpList_plain rfl (fun Ko hKo => ?_)
  go_simp
  refine hKo _ _ ?_
  clear hKo Ko
  try simp only [Act.put, nm1, nm2, nm3, i64_w]
  refine wpList_plain rfl (fun Ko hKo => ?_)
  go_simp
  refine hKo _ _ ?_
  clear hKo Ko
  try simp only [Act.put, nm1, nm2, nm3, i64_w]
  refine wpList_nil ?_
  (try simp only [Exit.then, Exit.inBlock, ↓reduceIte, Nat.reduceEqDiff])
  refine hK17 _ _ ?_
  refine wp_ret ?_
  (try simp only [Exit.then, Exit.inBlock, ↓reduceIte, Nat.reduceEqDiff])
  refine hQf _ _ _ ?_
  exact bodyPost_ret (v := .int .i64 t3) (by first | rfl | (simp [results, Try.results42, go_sem]; done) | (simp [results, Try.results42, go_sem]; rfl)) rfl ⟨rfl, hu6.out⟩

set_option maxHeartbeats 4000000 in
set_option maxRecDepth 100000 in
theorem spec_l01Mod.calls (K : Nat) (a0 : Int) (a1 : Int) (r0 : Int) (w : World)  (h : spec_l01Mod.f K a0 a1 = some (r0)) :
    Calls Try.prog 60 #[.int .i64 a0, .int .i64 a1] w fun e w' => e = .returned (.int .i64 r0) ∧ Up w w' := by
 have H : ((if (a1 == 0) = true then none else some (Int.tmod (wrap64 ((Int.tmod a0 a1) + a1)) a1)) : Option (Int)) = some (r0) := h
 clear h
 by_cases c3 : (a1 == 0) = true
 ·
  rw [if_pos c3] at H
  have c3n : (a1 != 0) = false := by rw [bne, c3]; rfl
  exact absurd H (by simp)
 ·
  rw [if_neg c3] at H
  replace c3 := Bool.eq_false_iff.mpr c3
  have c3n : (a1 != 0) = true := by rw [bne, c3]; rfl
  have c3p : ¬ a1 = 0 := fun e => by simp [e] at c3
  obtain rfl := Option.some.inj H
  go_enter Try.func60, Try.ntmps60
  refine wp_hide (fun Qf hQf => ?_)
  refine wp_seq_k (fun K1 hK1 => ?_)
  refine wp_region_lit ?_
  refine wpList_plain rfl (fun Ko hKo => ?_)
  go_simp
  refine hKo _ _ ?_
  clear hKo Ko
  try simp only [Act.put, nm1, nm2, nm3, i64_w]
  refine wpList_nil ?_
  (try simp only [Exit.then, Exit.inBlock, ↓reduceIte, Nat.reduceEqDiff])
  refine hK1 _ _ ?_
  refine wp_seq_k (fun K2 hK2 => ?_)
  refine wp_region_lit ?_
  refine wpList_plain rfl (fun Ko hKo => ?_)
  go_simp
  refine hKo _ _ ?_
  clear hKo Ko
  try simp only [Act.put, nm1, nm2, nm3, i64_w]
  refine wpList_plain rfl (fun Ko hKo => ?_)
  go_simp
  refine hKo _ _ ?_
  clear hKo Ko
  try simp only [Act.put, nm1, nm2, nm3, i64_w]
  refine wpList_plain rfl (fun Ko hKo => ?_)
  go_simp
  refine hKo _ _ ?_
  clear hKo Ko
  try simp only [Act.put, nm1, nm2, nm3, i64_w]
  refine wpList_plain rfl (fun Ko hKo => ?_)
  go_simp
  refine hKo _ _ ?_
  clear hKo Ko
  try simp only [Act.put, nm1, nm2, nm3, i64_w]
  refine wpList_plain rfl (fun Ko hKo => ?_)
  go_simp
  refine hKo _ _ ?_
  clear hKo Ko
  try simp only [Act.put, nm1, nm2, nm3, i64_w]
  refine wpList_plain rfl (fun Ko hKo => ?_)
  go_simp
  refine hKo _ _ ?_
  clear hKo Ko
  try simp only [Act.put, nm1, nm2, nm3, i64_w]
  refine wpList_plain rfl (fun Ko hKo => ?_)
  go_simp
  refine hKo _ _ ?_
  clear hKo Ko
  try simp only [Act.put, nm1, nm2, nm3, i64_w]
  refine wpList_plain rfl (fun Ko hKo => ?_)
  go_simp
  refine hKo _ _ ?_
  clear hKo Ko
  try simp only [Act.put, nm1, nm2, nm3, i64_w]
  refine wpList_nil ?_
  (try simp only [Exit.then, Exit.inBlock, ↓reduceIte, Nat.reduceEqDiff])
  refine hK2 _ _ ?_
  refine wp_ret ?_
  (try simp only [Exit.then, Exit.inBlock, ↓reduceIte, Nat.reduceEqDiff])
  refine hQf _ _ _ ?_
  exact bodyPost_ret (v := .int .i64 (Int.tmod (wrap64 ((Int.tmod a0 a1) + a1)) a1)) (by first | rfl | (simp [results, Try.results60, go_sem]; done) | (simp [results, Try.results60, go_sem]; rfl)) rfl ⟨rfl, (Up.refl _)⟩

set_option maxHeartbeats 4000000 in
set_option maxRecDepth 100000 in
theorem spec_CoefficientsOf.calls (K : Nat) (a0 : Int) (a1 : Int) (r0 : List (Int)) (r1 : Int) (w : World)  (h : spec_CoefficientsOf.f K a0 a1 = some (r0, r1)) :
    Calls Try.prog 30 #[.int .i64 a0, .int .i64 a1] w fun e w' => ∃ (Ar0 : Option Addr) (cr0 : Nat), e = .returned (.tuple #[.slice Ar0 r0.length cr0, .int .i64 r1]) ∧ Own eI 2 w' w.heap.size (.slice Ar0 r0.length cr0) r0 ∧ Up w w' := by
 have H : (((spec_l05Code.f K a0 a1 ([])).bind fun t3 => (if (t3 == 0) = true then (if decide (40 < a1) = true then some ([], 2) else (if decide (0 ≤ (wrap64 (a1 + 2))) = true then (if decide ((wrap64 (a1 + 2)) ≤ 1000000) = true then ((idx (repl ((wrap64 (a1 + 2)).toNat) (0 : Int)) 1).bind fun t33 => (spec_CoefficientsOf.l0 K a0 a1 K a1 (repl ((wrap64 (a1 + 2)).toNat) (0 : Int)) ((repl ((wrap64 (a1 + 2)).toNat) (0 : Int)).set (1 : Int).toNat 1))) else none) else none)) else some ([], t3))) : Option (List (Int) × Int)) = some (r0, r1) := h
 clear h
 replace H := Option.bind_eq_some_iff.mp H
 obtain ⟨t3, A4, H⟩ := H
 replace A4 := Aside0.mk A4
 try dsimp only at H
 by_cases c9 : (t3 == 0) = true
 ·
  rw [if_pos c9] at H
  have c9n : (t3 != 0) = false := by rw [bne, c9]; rfl
  by_cases c10 : (decide (40 < a1)) = true
  ·
   rw [if_pos c10] at H
   simp only [Option.some.injEq, Prod.mk.injEq] at H
   obtain ⟨rfl, rfl⟩ := H
   go_enter Try.func30, Try.ntmps30
   refine wp_hide (fun Qf hQf => ?_)
   refine wp_seq_k (fun K1 hK1 => ?_)
   refine wp_region_lit ?_
   refine wpList_plain rfl (fun Ko hKo => ?_)
   go_simp
   refine hKo _ _ ?_
   clear hKo Ko
   try simp only [Act.put, nm1, nm2, nm3, i64_w]
   refine wpList_plain rfl (fun Ko hKo => ?_)
   go_simp
   refine hKo _ _ ?_
   clear hKo Ko
   try simp only [Act.put, nm1, nm2, nm3, i64_w]
   refine wpList_nil ?_
   (try simp only [Exit.then, Exit.inBlock, ↓reduceIte, Nat.reduceEqDiff])
   refine hK1 _ _ ?_
   refine wp_seq_k (fun K2 hK2 => ?_)
   refine wp_region_lit ?_
   refine wpList_plain rfl (fun Ko hKo => ?_)
   go_simp
   refine hKo _ _ ?_
   clear hKo Ko
   try simp only [Act.put, nm1, nm2, nm3, i64_w]
   refine wpList_plain rfl (fun Ko hKo => ?_)
   go_simp
   refine hKo _ _ ?_
   clear hKo Ko
   try simp only [Act.put, nm1, nm2, nm3, i64_w]
   refine step_call (wanted_none rfl) (by first | (go_simp; done) | (go_simp; rfl)) (spec_l05Code.calls K a0 a1 none 0 ([]) t3 w (Rd.nil) A4.out) ?_
   rintro e w5 ⟨rfl, hu⟩
   have hu6 := Aside0.mk hu
   clear hu
   refine ⟨_, rfl, ?_⟩
   simp only [Act.put, nm1, nm2, nm3, i64_w]
   refine wpList_plain rfl (fun Ko hKo => ?_)
   go_simp
   refine hKo _ _ ?_
   clear hKo Ko
   try simp only [Act.put, nm1, nm2, nm3, i64_w]
   refine wpList_nil ?_
   (try simp only [Exit.then, Exit.inBlock, ↓reduceIte, Nat.reduceEqDiff])
   refine hK2 _ _ ?_
   refine wp_seq_k (fun K7 hK7 => ?_)
   refine wp_seq_k (fun K8 hK8 => ?_)
   refine wp_region_lit ?_
   refine wpList_plain rfl (fun Ko hKo => ?_)
   go_simp
   refine hKo _ _ ?_
   clear hKo Ko
   try simp only [Act.put, nm1, nm2, nm3, i64_w]
   refine wpList_plain rfl (fun Ko hKo => ?_)
   go_simp
   refine hKo _ _ ?_
   clear hKo Ko
   try simp only [Act.put, nm1, nm2, nm3, i64_w]
   refine wpList_plain rfl (fun Ko hKo => ?_)
   go_simp
   refine hKo _ _ ?_
   clear hKo Ko
   try simp only [Act.put, nm1, nm2, nm3, i64_w]
   refine wpList_step (fun Ko hKo => ?_)
   go_simp
   refine hKo _ _ ?_
   clear hKo Ko
   try simp only [Act.put, nm1, nm2, nm3, i64_w]
   refine wpList_step (fun Ko hKo => ?_)
   go_simp
   refine hKo _ _ ?_
   clear hKo Ko
   try simp only [Act.put, nm1, nm2, nm3, i64_w]
   refine wpList_plain rfl (fun Ko hKo => ?_)
   go_simp
   refine hKo _ _ ?_
   clear hKo Ko
   try simp only [Act.put, nm1, nm2, nm3, i64_w]
   refine wpList_nil ?_
   (try simp only [Exit.then, Exit.inBlock, ↓reduceIte, Nat.reduceEqDiff])
   refine hK8 _ _ ?_
   refine wp_cond_true rfl ?_
   refine wp_region_lit ?_
   refine wpList_plain rfl (fun Ko hKo => ?_)
   go_simp
   refine hKo _ _ ?_
   clear hKo Ko
   try simp only [Act.put, nm1, nm2, nm3, i64_w]
   refine wpList_nil ?_
   (try simp only [Exit.then, Exit.inBlock, ↓reduceIte, Nat.reduceEqDiff])
   refine hK7 _ _ ?_
   refine wp_seq_k (fun K11 hK11 => ?_)
   refine wp_seq_k (fun K12 hK12 => ?_)
   refine wp_region_lit ?_
   refine wpList_plain rfl (fun Ko hKo => ?_)
   go_simp
   refine hKo _ _ ?_
   clear hKo Ko
   try simp only [Act.put, nm1, nm2, nm3, i64_w]
   refine wpList_plain rfl (fun Ko hKo => ?_)
   go_simp
   refine hKo _ _ ?_
   clear hKo Ko
   try simp only [Act.put, nm1, nm2, nm3, i64_w]
   refine wpList_nil ?_
   (try simp only [Exit.then, Exit.inBlock, ↓reduceIte, Nat.reduceEqDiff])
   refine hK12 _ _ ?_
   refine wp_cond_true rfl ?_
   refine wp_seq_k (fun K13 hK13 => ?_)
   refine wp_region_lit ?_
   refine wpList_plain rfl (fun Ko hKo => ?_)
   go_simp
   refine hKo _ _ ?_
   clear hKo Ko
   try simp only [Act.put, nm1, nm2, nm3, i64_w]
   refine wpList_plain rfl (fun Ko hKo => ?_)
   go_simp
   refine hKo _ _ ?_
   clear hKo Ko
   try simp only [Act.put, nm1, nm2, nm3, i64_w]
   refine wpList_plain rfl (fun Ko hKo => ?_)
   go_simp
   refine hKo _ _ ?_
   clear hKo Ko
   try simp only [Act.put, nm1, nm2, nm3, i64_w]
   refine wpList_nil ?_
   (try simp only [Exit.then, Exit.inBlock, ↓reduceIte, Nat.reduceEqDiff])
   refine hK13 _ _ ?_
   refine wp_ret ?_
   have h15 : Own eI 2 w5 w5.heap.size (.slice none ([] : List (Int)).length 0) [] := Own.nil
   (try simp only [Exit.then, Exit.inBlock, ↓reduceIte, Nat.reduceEqDiff])
   refine hQf _ _ _ ?_
   exact bodyPost_ret (v := .tuple #[.slice none 0 0, .int .i64 2]) (by first | rfl | (simp [results, Try.results30, go_sem]; done) | (simp [results, Try.results30, go_sem]; rfl)) rfl ⟨none, 0, rfl, (h15.lower (hu6.out.size)), hu6.out⟩
  ·
   rw [if_neg c10] at H
   replace c10 := Bool.eq_false_iff.mpr c10
   by_cases c19 : (decide (0 ≤ (wrap64 (a1 + 2)))) = true
   ·
    rw [if_pos c19] at H
    by_cases c20 : (decide ((wrap64 (a1 + 2)) ≤ 1000000)) = true
    ·
     rw [if_pos c20] at H
     replace H := Option.bind_eq_some_iff.mp H
     obtain ⟨t33, A34, H⟩ := H
     replace A34 := Aside0.mk A34
     try dsimp only at H
     go_enter Try.func30, Try.ntmps30
     refine wp_hide (fun Qf hQf => ?_)
     refine wp_seq_k (fun K1 hK1 => ?_)
     refine wp_region_lit ?_
     refine wpList_plain rfl (fun Ko hKo => ?_)
     go_simp
     refine hKo _ _ ?_
     clear hKo Ko
     try simp only [Act.put, nm1, nm2, nm3, i64_w]
     refine wpList_plain rfl (fun Ko hKo => ?_)
     go_simp
     refine hKo _ _ ?_
     clear hKo Ko
     try simp only [Act.put, nm1, nm2, nm3, i64_w]
     refine wpList_nil ?_
     (try simp only [Exit.then, Exit.inBlock, ↓reduceIte, Nat.reduceEqDiff])
     refine hK1 _ _ ?_
     refine wp_seq_k (fun K2 hK2 => ?_)
     refine wp_region_lit ?_
     refine wpList_plain rfl (fun Ko hKo => ?_)
     go_simp
     refine hKo _ _ ?_
     clear hKo Ko
     try simp only [Act.put, nm1, nm2, nm3, i64_w]
     refine wpList_plain rfl (fun Ko hKo => ?_)
     go_simp
     refine hKo _ _ ?_
     clear hKo Ko
     try simp only [Act.put, nm1, nm2, nm3, i64_w]
     refine step_call (wanted_none rfl) (by first | (go_simp; done) | (go_simp; rfl)) (spec_l05Code.calls K a0 a1 none 0 ([]) t3 w (Rd.nil) A4.out) ?_
     rintro e w5 ⟨rfl, hu⟩
     have hu6 := Aside0.mk hu
     clear hu
     refine ⟨_, rfl, ?_⟩
     simp only [Act.put, nm1, nm2, nm3, i64_w]
     refine wpList_plain rfl (fun Ko hKo => ?_)
     go_simp
     refine hKo _ _ ?_
     clear hKo Ko
     try simp only [Act.put, nm1, nm2, nm3, i64_w]
     refine wpList_nil ?_
     (try simp only [Exit.then, Exit.inBlock, ↓reduceIte, Nat.reduceEqDiff])
     refine hK2 _ _ ?_
     refine wp_seq_k (fun K7 hK7 => ?_)
     refine wp_seq_k (fun K8 hK8 => ?_)
     refine wp_region_lit ?_
     refine wpList_plain rfl (fun Ko hKo => ?_)
     go_simp
     refine hKo _ _ ?_
     clear hKo Ko
     try simp only [Act.put, nm1, nm2, nm3, i64_w]
     refine wpList_plain rfl (fun Ko hKo => ?_)
     go_simp
     refine hKo _ _ ?_
     clear hKo Ko
     try simp only [Act.put, nm1, nm2, nm3, i64_w]
     refine wpList_plain rfl (fun Ko hKo => ?_)
     go_simp
     refine hKo _ _ ?_
     clear hKo Ko
     try simp only [Act.put, nm1, nm2, nm3, i64_w]
     refine wpList_step (fun Ko hKo => ?_)
     go_simp
     refine hKo _ _ ?_
     clear hKo Ko
     try simp only [Act.put, nm1, nm2, nm3, i64_w]
     refine wpList_step (fun Ko hKo => ?_)
     go_simp
     refine hKo _ _ ?_
     clear hKo Ko
     try simp only [Act.put, nm1, nm2, nm3, i64_w]
     refine wpList_plain rfl (fun Ko hKo => ?_)
     go_simp
     refine hKo _ _ ?_
     clear hKo Ko
     try simp only [Act.put, nm1, nm2, nm3, i64_w]
     refine wpList_nil ?_
     (try simp only [Exit.then, Exit.inBlock, ↓reduceIte, Nat.reduceEqDiff])
     refine hK8 _ _ ?_
     refine wp_cond_false rfl ?_
     refine wp_skip ?_
     (try simp only [Exit.then, Exit.inBlock, ↓reduceIte, Nat.reduceEqDiff])
     refine hK7 _ _ ?_
     refine wp_seq_k (fun K16 hK16 => ?_)
     refine wp_seq_k (fun K17 hK17 => ?_)
     refine wp_region_lit ?_
     refine wpList_plain rfl (fun Ko hKo => ?_)
     go_simp
     refine hKo _ _ ?_
     clear hKo Ko
     try simp only [Act.put, nm1, nm2, nm3, i64_w]
     refine wpList_plain rfl (fun Ko hKo => ?_)
     go_simp
     refine hKo _ _ ?_
     clear hKo Ko
     try simp only [Act.put, nm1, nm2, nm3, i64_w]
     refine wpList_nil ?_
     (try simp only [Exit.then, Exit.inBlock, ↓reduceIte, Nat.reduceEqDiff])
     refine hK17 _ _ ?_
     refine wp_cond_false rfl ?_
     refine wp_skip ?_
     (try simp only [Exit.then, Exit.inBlock, ↓reduceIte, Nat.reduceEqDiff])
     refine hK16 _ _ ?_
     refine wp_seq_k (fun K18 hK18 => ?_)
     refine' wp_region_up 8 [Slot.det _, Slot.det _, Slot.any (RowTo eI 2 w5.heap.size (repl ((wrap64 (a1 + 2)).toNat) (0 : Int)) (fun v => v)) true, Slot.det _, Slot.det _, Slot.any (RowTo eI 2 w5.heap.size (repl ((wrap64 (a1 + 2)).toNat) (0 : Int)) (fun v => v)) true, Slot.same 2, Slot.same 5] (by kernel_rfl) (by kernel_rfl) ?main
     case main =>
      simp only [List.take_succ_cons, List.take_zero]
      refine wpK_ops rfl (fun w1 hu => ?_) ?_
      · clear hu
        go_simp
        first | done | rfl
      simp only [Act.put, nm1, nm2, nm3, i64_w]
      refine wpK_ops rfl (fun w1 hu => ?_) ?_
      · clear hu
        go_simp
        first | done | rfl
      simp only [Act.put, nm1, nm2, nm3, i64_w]
      refine wpK_any rfl (stab_row _ _ _ _ _) (fun w1 hu _ => fresh_make eI (z := .int .i64 0) (bytes := 8) (n := wrap64 (a1 + 2)) (z0 := 0) _ _ rfl rfl rfl (by kernel_rfl) (by kernel_rfl) rfl (by decide) (of_decide_eq_true (by assumption)) (by have h1_ : wrap64 (a1 + 2) ≤ 1000000 := of_decide_eq_true (by assumption); omega) (by have h1_ : wrap64 (a1 + 2) ≤ 1000000 := of_decide_eq_true (by assumption); omega) ((Up.refl _).drew.trans hu).size) (fun v24 => ?_)
      simp only [Act.put, nm1, nm2, nm3, i64_w]
      refine wpK_ops rfl (fun w1 hu => ?_) ?_
      · clear hu
        go_simp
        first | done | rfl
      simp only [Act.put, nm1, nm2, nm3, i64_w]
      refine wpK_ops rfl (fun w1 hu => ?_) ?_
      · clear hu
        go_simp
        first | done | rfl
      simp only [Act.put, nm1, nm2, nm3, i64_w]
      refine wpK_any rfl (stab_row _ _ _ _ _) (fun w1 hu _ => fresh_make eI (z := .int .i64 0) (bytes := 8) (n := wrap64 (a1 + 2)) (z0 := 0) _ _ rfl rfl rfl (by kernel_rfl) (by kernel_rfl) rfl (by decide) (of_decide_eq_true (by assumption)) (by have h1_ : wrap64 (a1 + 2) ≤ 1000000 := of_decide_eq_true (by assumption); omega) (by have h1_ : wrap64 (a1 + 2) ≤ 1000000 := of_decide_eq_true (by assumption); omega) ((Up.refl _).drew.trans hu).size) (fun v28 => ?_)
      simp only [Act.put, nm1, nm2, nm3, i64_w]
      refine wpK_same rfl (by kernel_rfl) rfl v24 rfl (fun w1 hu => ?_) ?_
      · clear hu
        go_simp
        first | done | rfl
      simp only [Act.put, nm1, nm2, nm3, i64_w]
      refine wpK_same rfl (by kernel_rfl) rfl v28 rfl (fun w1 hu => ?_) ?_
      · clear hu
        go_simp
        first | done | rfl
      simp only [Act.put, nm1, nm2, nm3, i64_w]
      refine wpK_nil ?_
      intro w29 hu hap
      simp only [List.drop_succ_cons, List.drop_zero]
      replace hu := (Up.refl _).drew.trans hu
      obtain ⟨hf0, hn0, ⟨P25, q26, e0, hr27⟩, hf1, hn1, ⟨P21, q22, e1, hr23⟩, -⟩ := hap
      have hn30 := Aside0.mk (fun k_ l_ hk hl => hn0 _ (.head _) rfl rfl k_ l_ (by rw [e0]; exact hk) (by rw [e1]; exact hl) : ∀ k_ l_, blk (.slice P25 ((repl ((wrap64 (a1 + 2)).toNat) (0 : Int)).length) q26) = some k_ → blk (.slice P21 ((repl ((wrap64 (a1 + 2)).toNat) (0 : Int)).length) q22) = some l_ → k_ ≠ l_)
      dsimp only at e0 e1
      subst e0 e1
      clear hf0 hn0 hf1 hn1
      have hu31 := Aside0.mk hu
      clear hu
      refine wpList_nil ?_
      (try simp only [Exit.then, Exit.inBlock, ↓reduceIte, Nat.reduceEqDiff])
      refine hK18 _ _ ?_
      refine wp_seq_k (fun K32 hK32 => ?_)
      refine wp_region_lit ?_
      refine wpList_plain rfl (fun Ko hKo => ?_)
      go_simp
      refine hKo _ _ ?_
      clear hKo Ko
      try simp only [Act.put, nm1, nm2, nm3, i64_w]
      refine step_index eI (T := 2) (wanted_none rfl) rfl (by kernel_rfl) (by kernel_rfl) rfl rfl rfl hr27.rd A34.out ?_
      intro ad35 hat he
      have he36 := Aside0.mk he
      have hat37 := Aside0.mk hat
      clear he hat
      simp only [Act.put, nm1, nm2, nm3, i64_w]
      have hO0 := Aside0.mk hr27
      have lb42 := Aside0.mk hO0.out.lt
      refine step_put eI (T := 2) (u := .int .i64 1) (old := t33) (new := 1) 0 rfl rfl rfl hat37.out (addr_add0 _).symm rfl rfl (by kernel_rfl) (by simp [Value.cells, Value.oneCell']) (Nat.le_of_ble_eq_true rfl) rfl hO0.out A34.out ?_
      intro w38 h40 hg
      have hg41 := Aside0.mk hg
      clear hO0 hg
      try simp only [Act.put, nm1, nm2, nm3, i64_w]
      have h43 := hr23.grow hg41.out hn30.out
      have hl44 : Aside0 ((repl ((wrap64 (a1 + 2)).toNat) (0 : Int)).length = ((repl ((wrap64 (a1 + 2)).toNat) (0 : Int)).set (1 : Int).toNat 1).length) := Aside0.mk (List.length_set ..).symm
      refine wpList_nil ?_
      (try simp only [Exit.then, Exit.inBlock, ↓reduceIte, Nat.reduceEqDiff])
      refine hK32 _ _ ?_
      refine wp_seq_k (fun K45 hK45 => ?_)
      refine wp_seq_k (fun K46 hK46 => ?_)
      refine wp_region_lit ?_
      refine wpList_plain rfl (fun Ko hKo => ?_)
      go_simp
      refine hKo _ _ ?_
      clear hKo Ko
      try simp only [Act.put, nm1, nm2, nm3, i64_w]
      refine wpList_plain rfl (fun Ko hKo => ?_)
      go_simp
      refine hKo _ _ ?_
      clear hKo Ko
      try simp only [Act.put, nm1, nm2, nm3, i64_w]
      refine wpList_nil ?_
      (try simp only [Exit.then, Exit.inBlock, ↓reduceIte, Nat.reduceEqDiff])
      refine hK46 _ _ ?_
      refine wp_block ?_
      have HL57 := Aside0.mk H
      clear H
      go_loopg [9, 7, 8] K (fun kq v9 v7 v8 w' => ∃ (x47 : Int) (x48 : List (Int)) (P49 : Option Addr) (q50 : Nat) (x51 : List (Int)) (P52 : Option Addr) (q53 : Nat), v9 = .int .i64 x47 ∧ v7 = .slice P49 x48.length q50 ∧ v8 = .slice P52 x51.length q53 ∧ Aside0 (spec_CoefficientsOf.l0 K a0 a1 kq x47 x48 x51 = some (r0, r1)) ∧ Aside0 (kq ≤ K) ∧ Aside0 (Up w5 w') ∧ Aside0 (w38.heap.size ≤ w'.heap.size) ∧ Own eI 2 w' w5.heap.size (.slice P49 x48.length q50) x48 ∧ Own eI 2 w' w5.heap.size (.slice P52 x51.length q53) x51 ∧ Aside0 (∀ k l, blk (.slice P49 x48.length q50) = some k → blk (.slice P52 x51.length q53) = some l → k ≠ l))
      case atStart => exact ⟨a1, (repl ((wrap64 (a1 + 2)).toNat) (0 : Int)), P21, q22, ((repl ((wrap64 (a1 + 2)).toNat) (0 : Int)).set (1 : Int).toNat 1), P25, q26, (by first | rfl | simp), (by first | rfl | simp), (congrArg (fun n_ => Value.slice _ n_ _) hl44.out), HL57, ⟨Nat.le_refl _⟩, ⟨(hu31.out.grow hg41.out (fun k hk => Nat.le_trans (Nat.le_refl _) ((fun k hk => (lb42.out k hk).1) k hk)))⟩, ⟨Nat.le_refl _⟩, h43, h40, ⟨(fun k l hk hl => Ne.symm ((fun k l hk hl => hn30.out k l (blk_eq.symm.trans hk) hl) l k hl hk))⟩⟩
      case round =>
       rename_i J64 K65 hJ64 hK65
       obtain ⟨x47, x48, P49, q50, x51, P52, q53, rfl, rfl, rfl, HL63, hk62, hu55, hz56, h58, h59, hn60⟩ := hrel
       obtain ⟨w54, rfl⟩ : ∃ wo : World, wo = wr := ⟨_, rfl⟩
       obtain ⟨k61, rfl⟩ | rfl : (∃ k, gk = k + 1) ∨ gk = 0 := by rcases gk with _ | k; exact .inr rfl; exact .inl ⟨k, rfl⟩
       case inr => exact absurd HL63.out (by simp [spec_CoefficientsOf.l0])
       have H := HL63.out
       clear HL63
       rw [spec_CoefficientsOf.l0] at H
       by_cases c68 : (decide (0 < x47)) = true
       ·
        rw [if_pos c68] at H
        refine wp_seq_k (fun K66 hK66 => ?_)
        refine wp_seq_k (fun K67 hK67 => ?_)
        refine wp_region_lit ?_
        refine wpList_plain rfl (fun Ko hKo => ?_)
        go_simp
        refine hKo _ _ ?_
        clear hKo Ko
        try simp only [Act.put, nm1, nm2, nm3, i64_w]
        refine wpList_plain rfl (fun Ko hKo => ?_)
        go_simp
        refine hKo _ _ ?_
        clear hKo Ko
        try simp only [Act.put, nm1, nm2, nm3, i64_w]
        refine wpList_nil ?_
        (try simp only [Exit.then, Exit.inBlock, ↓reduceIte, Nat.reduceEqDiff])
        refine hK67 _ _ ?_
        refine wp_cond_true rfl ?_
        refine wp_skip ?_
        (try simp only [Exit.then, Exit.inBlock, ↓reduceIte, Nat.reduceEqDiff])
        refine hK66 _ _ ?_
        refine wp_seq_k (fun K69 hK69 => ?_)
        refine wp_block ?_
        refine wp_seq_k (fun K70 hK70 => ?_)
        refine wp_region_lit ?_
        refine wpList_plain rfl (fun Ko hKo => ?_)
        go_simp
        refine hKo _ _ ?_
        clear hKo Ko
        try simp only [Act.put, nm1, nm2, nm3, i64_w]
        refine wpList_plain rfl (fun Ko hKo => ?_)
        go_simp
        refine hKo _ _ ?_
        clear hKo Ko
        try simp only [Act.put, nm1, nm2, nm3, i64_w]
        refine step_make eI (z := .int .i64 0) (bytes := 8) (n := wrap64 (a1 + 2)) (z0 := 0) (wanted_none rfl) _ _ rfl rfl rfl rfl (by kernel_rfl) rfl (by decide) (of_decide_eq_true (by assumption)) (by have h1_ : wrap64 (a1 + 2) ≤ 1000000 := of_decide_eq_true (by assumption); omega) ?_
        intro P71 q72 w73 h75 hu
        simp only [Act.put, nm1, nm2, nm3, i64_w]
        have hu76 := Aside0.mk hu
        clear hu
        refine wpList_plain rfl (fun Ko hKo => ?_)
        go_simp
        refine hKo _ _ ?_
        clear hKo Ko
        try simp only [Act.put, nm1, nm2, nm3, i64_w]
        refine wpList_nil ?_
        (try simp only [Exit.then, Exit.inBlock, ↓reduceIte, Nat.reduceEqDiff])
        refine hK70 _ _ ?_
        refine wp_seq_k (fun K77 hK77 => ?_)
        refine wp_seq_k (fun K78 hK78 => ?_)
        refine wp_region_lit ?_
        refine wpList_plain rfl (fun Ko hKo => ?_)
        go_simp
        refine hKo _ _ ?_
        clear hKo Ko
        try simp only [Act.put, nm1, nm2, nm3, i64_w]
        refine wpList_nil ?_
        (try simp only [Exit.then, Exit.inBlock, ↓reduceIte, Nat.reduceEqDiff])
        refine hK78 _ _ ?_
        refine wp_block ?_
        have HL84 := Aside0.mk H
        clear H
        go_loopg [11] k61 (fun kq v11 w' => ∃ (x79 : Int) (x80 : List (Int)), v11 = .int .i64 x79 ∧ Aside0 (spec_CoefficientsOf.l1 K a0 a1 x47 x48 x51 kq x79 x80 = some (r0, r1)) ∧ Aside0 (kq ≤ k61) ∧ Aside0 (Up w54 w') ∧ Aside0 (w73.heap.size ≤ w'.heap.size) ∧ Own eI 2 w' w54.heap.size (.slice P71 x80.length q72) x80 ∧ Aside0 ((repl ((wrap64 (a1 + 2)).toNat) (0 : Int)).length = x80.length) ∧ Aside0 (∀ k l, blk (.slice P71 x80.length q72) = some k → blk (.slice P49 x48.length q50) = some l → k ≠ l) ∧ Aside0 (∀ k l, blk (.slice P71 x80.length q72) = some k → blk (.slice P52 x51.length q53) = some l → k ≠ l))
        case atStart => exact ⟨0, (repl ((wrap64 (a1 + 2)).toNat) (0 : Int)), (by first | rfl | simp), HL84, ⟨Nat.le_refl _⟩, ⟨hu76.out⟩, ⟨Nat.le_refl _⟩, h75, ⟨rfl⟩, ⟨(fun k l hk hl => Ne.symm ((fun k l hk hl => Nat.ne_of_lt (Nat.lt_of_lt_of_le ((fun k hk => Nat.lt_of_lt_of_le (h58.lt k hk).2 (Nat.le_refl _)) k hk) ((fun k hk => Nat.le_trans (Nat.le_refl _) (h75.lt k hk).1) l hl))) l k hl hk))⟩, ⟨(fun k l hk hl => Ne.symm ((fun k l hk hl => Nat.ne_of_lt (Nat.lt_of_lt_of_le ((fun k hk => Nat.lt_of_lt_of_le (h59.lt k hk).2 (Nat.le_refl _)) k hk) ((fun k hk => Nat.le_trans (Nat.le_refl _) (h75.lt k hk).1) l hl))) l k hl hk))⟩⟩
        case round =>
         rename_i J92 K93 hJ92 hK93
         obtain ⟨x79, x80, rfl, HL91, hk90, hu82, hz83, h85, hl86, hn87, hn88⟩ := hrel
         obtain ⟨w81, rfl⟩ : ∃ wo : World, wo = wr := ⟨_, rfl⟩
         obtain ⟨k89, rfl⟩ | rfl : (∃ k, gk = k + 1) ∨ gk = 0 := by rcases gk with _ | k; exact .inr rfl; exact .inl ⟨k, rfl⟩
         case inr => exact absurd HL91.out (by simp [spec_CoefficientsOf.l1])
         have H := HL91.out
         clear HL91
         rw [spec_CoefficientsOf.l1] at H
         by_cases c96 : (decide (x79 ≤ a1)) = true
         ·
          rw [if_pos c96] at H
          replace H := Option.bind_eq_some_iff.mp H
          obtain ⟨t99, A100, H⟩ := H
          replace A100 := Aside0.mk A100
          try dsimp only at H
          replace H := Option.bind_eq_some_iff.mp H
          obtain ⟨t105, A106, H⟩ := H
          replace A106 := Aside0.mk A106
          try dsimp only at H
          replace H := Option.bind_eq_some_iff.mp H
          obtain ⟨t111, A112, H⟩ := H
          replace A112 := Aside0.mk A112
          try dsimp only at H
          by_cases c127 : (decide (0 < x79)) = true
          ·
           rw [if_pos c127] at H
           replace H := Option.bind_eq_some_iff.mp H
           obtain ⟨t128, A129, H⟩ := H
           replace A129 := Aside0.mk A129
           try dsimp only at H
           replace H := Option.bind_eq_some_iff.mp H
           obtain ⟨t134, A135, H⟩ := H
           replace A135 := Aside0.mk A135
           try dsimp only at H
           replace H := Option.bind_eq_some_iff.mp H
           obtain ⟨t140, A141, H⟩ := H
           replace A141 := Aside0.mk A141
           try dsimp only at H
           by_cases c156 : (x79 == 1) = true
           ·
            rw [if_pos c156] at H
            have c156n : (x79 != 1) = false := by rw [bne, c156]; rfl
            replace H := Option.bind_eq_some_iff.mp H
            obtain ⟨t157, A158, H⟩ := H
            replace A158 := Aside0.mk A158
            try dsimp only at H
            replace H := Option.bind_eq_some_iff.mp H
            obtain ⟨t162, A163, H⟩ := H
            replace A163 := Aside0.mk A163
            try dsimp only at H
            replace H := Option.bind_eq_some_iff.mp H
            obtain ⟨t173, A174, H⟩ := H
            replace A174 := Aside0.mk A174
            try dsimp only at H
            replace H := Option.bind_eq_some_iff.mp H
            obtain ⟨t178, A179, H⟩ := H
            replace A179 := Aside0.mk A179
            try dsimp only at H
            replace H := Option.bind_eq_some_iff.mp H
            obtain ⟨t182, A183, H⟩ := H
            replace A183 := Aside0.mk A183
            try dsimp only at H
            have HL193 := Aside0.mk H
            clear H
            refine wp_seq_k (fun K94 hK94 => ?_)
            refine wp_seq_k (fun K95 hK95 => ?_)
            refine wp_region_lit ?_
            refine wpList_plain rfl (fun Ko hKo => ?_)
            go_simp
            refine hKo _ _ ?_
            clear hKo Ko
            try simp only [Act.put, nm1, nm2, nm3, i64_w]
            refine wpList_plain rfl (fun Ko hKo => ?_)
            go_simp
            refine hKo _ _ ?_
            clear hKo Ko
            try simp only [Act.put, nm1, nm2, nm3, i64_w]
            refine wpList_plain rfl (fun Ko hKo => ?_)
            go_simp
            refine hKo _ _ ?_
            clear hKo Ko
            try simp only [Act.put, nm1, nm2, nm3, i64_w]
            refine wpList_nil ?_
            (try simp only [Exit.then, Exit.inBlock, ↓reduceIte, Nat.reduceEqDiff])
            refine hK95 _ _ ?_
            refine wp_cond_true rfl ?_
            refine wp_skip ?_
            (try simp only [Exit.then, Exit.inBlock, ↓reduceIte, Nat.reduceEqDiff])
            refine hK94 _ _ ?_
            refine wp_seq_k (fun K97 hK97 => ?_)
            refine wp_block ?_
            refine wp_seq_k (fun K98 hK98 => ?_)
            obtain ⟨ad101, hat, he⟩ := rd_at ((h59.up hu82.out).rd) A100.out
            have he102 := Aside0.mk he
            have hat104 := Aside0.mk hat
            clear he hat
            obtain ⟨ad107, hat, he⟩ := rd_at ((h58.up hu82.out).rd) A106.out
            have he108 := Aside0.mk he
            have hat110 := Aside0.mk hat
            clear he hat
            obtain ⟨ad113, hat, he⟩ := rd_at h85.rd A112.out
            have he114 := Aside0.mk he
            have hat116 := Aside0.mk hat
            clear he hat
            refine' wp_region_up 13 [Slot.det _, Slot.det _, Slot.det _, Slot.det _, Slot.det (.pointer (some ad101)), Slot.det _, Slot.det _, Slot.det _, Slot.det _, Slot.det (.pointer (some ad107)), Slot.det _, Slot.det _, Slot.det (.pointer (some ad113))] (by kernel_rfl) (by kernel_rfl) ?main
            case main =>
             simp only [List.take_succ_cons, List.take_zero]
             refine wpK_ops rfl (fun w1 hu => ?_) ?_
             · clear hu
               go_simp
               first | done | rfl
             simp only [Act.put, nm1, nm2, nm3, i64_w]
             refine wpK_ops rfl (fun w1 hu => ?_) ?_
             · clear hu
               go_simp
               first | done | rfl
             simp only [Act.put, nm1, nm2, nm3, i64_w]
             refine wpK_ops rfl (fun w1 hu => ?_) ?_
             · clear hu
               go_simp
               first | done | rfl
             simp only [Act.put, nm1, nm2, nm3, i64_w]
             refine wpK_ops rfl (fun w1 hu => ?_) ?_
             · clear hu
               go_simp
               first | done | rfl
             simp only [Act.put, nm1, nm2, nm3, i64_w]
             refine wpK_ops rfl (fun w1 hu => ?_) ?_
             · exact quiet_index eI (T := 2) rfl (by kernel_rfl) (by kernel_rfl) rfl rfl rfl hat104.out A100.out
             simp only [Act.put, nm1, nm2, nm3, i64_w]
             refine wpK_ops rfl (fun w1 hu => ?_) ?_
             · have cl0 := he102.out 0 _ rfl
               rw [addr_add0] at cl0
               replace cl0 := (((Up.refl _).drew.trans hu)).kept cl0
               go_simp
               first | done | rfl
             simp only [Act.put, nm1, nm2, nm3, i64_w]
             refine wpK_ops rfl (fun w1 hu => ?_) ?_
             · clear hu
               go_simp
               first | done | rfl
             simp only [Act.put, nm1, nm2, nm3, i64_w]
             refine wpK_ops rfl (fun w1 hu => ?_) ?_
             · clear hu
               go_simp
               first | done | rfl
             simp only [Act.put, nm1, nm2, nm3, i64_w]
             refine wpK_ops rfl (fun w1 hu => ?_) ?_
             · clear hu
               go_simp
               first | done | rfl
             simp only [Act.put, nm1, nm2, nm3, i64_w]
             refine wpK_ops rfl (fun w1 hu => ?_) ?_
             · exact quiet_index eI (T := 2) rfl (by kernel_rfl) (by kernel_rfl) rfl rfl rfl hat110.out A106.out
             simp only [Act.put, nm1, nm2, nm3, i64_w]
             refine wpK_ops rfl (fun w1 hu => ?_) ?_
             · have cl0 := he108.out 0 _ rfl
               rw [addr_add0] at cl0
               replace cl0 := (((Up.refl _).drew.trans hu)).kept cl0
               go_simp
               first | done | rfl
             simp only [Act.put, nm1, nm2, nm3, i64_w]
             refine wpK_ops rfl (fun w1 hu => ?_) ?_
             · clear hu
               go_simp
               first | done | rfl
             simp only [Act.put, nm1, nm2, nm3, i64_w]
             refine wpK_ops rfl (fun w1 hu => ?_) ?_
             · exact quiet_index eI (T := 2) rfl (by kernel_rfl) (by kernel_rfl) rfl hl86.out rfl hat116.out A112.out
             simp only [Act.put, nm1, nm2, nm3, i64_w]
             refine wpK_nil ?_
             intro w117 hu hap
             simp only [List.drop_succ_cons, List.drop_zero]
             replace hu := (Up.refl _).drew.trans hu
             clear hap
             have hu118 := Aside0.mk hu
             clear hu
             have hO0 := Aside0.mk (h85.up hu118.out)
             have lb123 := Aside0.mk hO0.out.lt
             refine step_put eI (T := 2) (u := .int .i64 (wrap64 ((wrap64 (2 * t99)) - t105))) (old := t111) (new := wrap64 ((wrap64 (2 * t99)) - t105)) 0 rfl rfl rfl hat116.out (addr_add0 _).symm rfl rfl (by kernel_rfl) (by simp [Value.cells, Value.oneCell']) (Nat.le_of_ble_eq_true rfl) rfl hO0.out A112.out ?_
             intro w119 h121 hg
             have hg122 := Aside0.mk hg
             clear hO0 hg
             try simp only [Act.put, nm1, nm2, nm3, i64_w]
             have hl124 : Aside0 ((repl ((wrap64 (a1 + 2)).toNat) (0 : Int)).length = (x80.set (x79).toNat (wrap64 ((wrap64 (2 * t99)) - t105))).length) := Aside0.mk (hl86.out.trans (List.length_set ..).symm)
             refine wpList_nil ?_
             (try simp only [Exit.then, Exit.inBlock, ↓reduceIte, Nat.reduceEqDiff])
             refine hK98 _ _ ?_
             refine wp_seq_k (fun K125 hK125 => ?_)
             refine wp_seq_k (fun K126 hK126 => ?_)
             refine wp_region_lit ?_
             refine wpList_plain rfl (fun Ko hKo => ?_)
             go_simp
             refine hKo _ _ ?_
             clear hKo Ko
             try simp only [Act.put, nm1, nm2, nm3, i64_w]
             refine wpList_plain rfl (fun Ko hKo => ?_)
             go_simp
             refine hKo _ _ ?_
             clear hKo Ko
             try simp only [Act.put, nm1, nm2, nm3, i64_w]
             refine wpList_nil ?_
             (try simp only [Exit.then, Exit.inBlock, ↓reduceIte, Nat.reduceEqDiff])
             refine hK126 _ _ ?_
             refine wp_cond_true rfl ?_
             obtain ⟨ad130, hat, he⟩ := rd_at h121.rd A129.out
             have he131 := Aside0.mk he
             have hat133 := Aside0.mk hat
             clear he hat
             obtain ⟨ad136, hat, he⟩ := rd_at ((h59.up ((hu82.out.trans hu118.out).grow hg122.out (fun k hk => Nat.le_trans (Nat.le_refl _) ((fun k hk => (lb123.out k hk).1) k hk)))).rd) A135.out
             have he137 := Aside0.mk he
             have hat139 := Aside0.mk hat
             clear he hat
             obtain ⟨ad142, hat, he⟩ := rd_at h121.rd A141.out
             have he143 := Aside0.mk he
             have hat145 := Aside0.mk hat
             clear he hat
             refine' wp_region_up 14 [Slot.det _, Slot.det _, Slot.det _, Slot.det _, Slot.det (.pointer (some ad130)), Slot.det _, Slot.det _, Slot.det _, Slot.det _, Slot.det (.pointer (some ad136)), Slot.det _, Slot.det _, Slot.det _, Slot.det (.pointer (some ad142))] (by kernel_rfl) (by kernel_rfl) ?main
             case main =>
              simp only [List.take_succ_cons, List.take_zero]
              refine wpK_ops rfl (fun w1 hu => ?_) ?_
              · clear hu
                go_simp
                first | done | rfl
              simp only [Act.put, nm1, nm2, nm3, i64_w]
              refine wpK_ops rfl (fun w1 hu => ?_) ?_
              · clear hu
                go_simp
                first | done | rfl
              simp only [Act.put, nm1, nm2, nm3, i64_w]
              refine wpK_ops rfl (fun w1 hu => ?_) ?_
              · clear hu
                go_simp
                first | done | rfl
              simp only [Act.put, nm1, nm2, nm3, i64_w]
              refine wpK_ops rfl (fun w1 hu => ?_) ?_
              · clear hu
                go_simp
                first | done | rfl
              simp only [Act.put, nm1, nm2, nm3, i64_w]
              refine wpK_ops rfl (fun w1 hu => ?_) ?_
              · exact quiet_index eI (T := 2) rfl (by kernel_rfl) (by kernel_rfl) rfl hl124.out rfl hat133.out A129.out
              simp only [Act.put, nm1, nm2, nm3, i64_w]
              refine wpK_ops rfl (fun w1 hu => ?_) ?_
              · have cl0 := he131.out 0 _ rfl
                rw [addr_add0] at cl0
                replace cl0 := (((Up.refl _).drew.trans hu)).kept cl0
                go_simp
                first | done | rfl
              simp only [Act.put, nm1, nm2, nm3, i64_w]
              refine wpK_ops rfl (fun w1 hu => ?_) ?_
              · clear hu
                go_simp
                first | done | rfl
              simp only [Act.put, nm1, nm2, nm3, i64_w]
              refine wpK_ops rfl (fun w1 hu => ?_) ?_
              · clear hu
                go_simp
                first | done | rfl
              simp only [Act.put, nm1, nm2, nm3, i64_w]
              refine wpK_ops rfl (fun w1 hu => ?_) ?_
              · clear hu
                go_simp
                first | done | rfl
              simp only [Act.put, nm1, nm2, nm3, i64_w]
              refine wpK_ops rfl (fun w1 hu => ?_) ?_
              · exact quiet_index eI (T := 2) rfl (by kernel_rfl) (by kernel_rfl) rfl rfl rfl hat139.out A135.out
              simp only [Act.put, nm1, nm2, nm3, i64_w]
              refine wpK_ops rfl (fun w1 hu => ?_) ?_
              · have cl0 := he137.out 0 _ rfl
                rw [addr_add0] at cl0
                replace cl0 := (((Up.refl _).drew.trans hu)).kept cl0
                go_simp
                first | done | rfl
              simp only [Act.put, nm1, nm2, nm3, i64_w]
              refine wpK_ops rfl (fun w1 hu => ?_) ?_
              · clear hu
                go_simp
                first | done | rfl
              simp only [Act.put, nm1, nm2, nm3, i64_w]
              refine wpK_ops rfl (fun w1 hu => ?_) ?_
              · clear hu
                go_simp
                first | done | rfl
              simp only [Act.put, nm1, nm2, nm3, i64_w]
              refine wpK_ops rfl (fun w1 hu => ?_) ?_
              · exact quiet_index eI (T := 2) rfl (by kernel_rfl) (by kernel_rfl) rfl hl124.out rfl hat145.out A141.out
              simp only [Act.put, nm1, nm2, nm3, i64_w]
              refine wpK_nil ?_
              intro w146 hu hap
              simp only [List.drop_succ_cons, List.drop_zero]
              replace hu := (Up.refl _).drew.trans hu
              clear hap
              have hu147 := Aside0.mk hu
              clear hu
              have hO0 := Aside0.mk (h121.up hu147.out)
              have lb152 := Aside0.mk hO0.out.lt
              refine step_put eI (T := 2) (u := .int .i64 (wrap64 (t128 - (wrap64 (4 * t134))))) (old := t140) (new := wrap64 (t128 - (wrap64 (4 * t134)))) 0 rfl rfl rfl hat145.out (addr_add0 _).symm rfl rfl (by kernel_rfl) (by simp [Value.cells, Value.oneCell']) (Nat.le_of_ble_eq_true rfl) rfl hO0.out A141.out ?_
              intro w148 h150 hg
              have hg151 := Aside0.mk hg
              clear hO0 hg
              try simp only [Act.put, nm1, nm2, nm3, i64_w]
              have hl153 : Aside0 ((repl ((wrap64 (a1 + 2)).toNat) (0 : Int)).length = ((x80.set (x79).toNat (wrap64 ((wrap64 (2 * t99)) - t105))).set (x79).toNat (wrap64 (t128 - (wrap64 (4 * t134))))).length) := Aside0.mk (hl124.out.trans (List.length_set ..).symm)
              refine wpList_nil ?_
              (try simp only [Exit.then, Exit.inBlock, ↓reduceIte, Nat.reduceEqDiff])
              refine hK125 _ _ ?_
              refine wp_seq_k (fun K154 hK154 => ?_)
              refine wp_seq_k (fun K155 hK155 => ?_)
              refine wp_region_lit ?_
              refine wpList_plain rfl (fun Ko hKo => ?_)
              go_simp
              refine hKo _ _ ?_
              clear hKo Ko
              try simp only [Act.put, nm1, nm2, nm3, i64_w]
              refine wpList_plain rfl (fun Ko hKo => ?_)
              go_simp
              refine hKo _ _ ?_
              clear hKo Ko
              try simp only [Act.put, nm1, nm2, nm3, i64_w]
              refine wpList_nil ?_
              (try simp only [Exit.then, Exit.inBlock, ↓reduceIte, Nat.reduceEqDiff])
              refine hK155 _ _ ?_
              refine wp_cond_true rfl ?_
              refine wp_region_lit ?_
              refine wpList_plain rfl (fun Ko hKo => ?_)
              go_simp
              refine hKo _ _ ?_
              clear hKo Ko
              try simp only [Act.put, nm1, nm2, nm3, i64_w]
              refine wpList_plain rfl (fun Ko hKo => ?_)
              go_simp
              refine hKo _ _ ?_
              clear hKo Ko
              try simp only [Act.put, nm1, nm2, nm3, i64_w]
              refine wpList_plain rfl (fun Ko hKo => ?_)
              go_simp
              refine hKo _ _ ?_
              clear hKo Ko
              try simp only [Act.put, nm1, nm2, nm3, i64_w]
              refine wpList_plain rfl (fun Ko hKo => ?_)
              go_simp
              refine hKo _ _ ?_
              clear hKo Ko
              try simp only [Act.put, nm1, nm2, nm3, i64_w]
              refine step_index eI (T := 2) (wanted_none rfl) rfl (by kernel_rfl) (by kernel_rfl) rfl hl153.out rfl h150.rd A158.out ?_
              intro ad159 hat he
              have he160 := Aside0.mk he
              have hat161 := Aside0.mk hat
              clear he hat
              simp only [Act.put, nm1, nm2, nm3, i64_w]
              have cl0 := he160.out 0 _ rfl
              rw [addr_add0] at cl0
              refine wpList_plain rfl (fun Ko hKo => ?_)
              go_simp
              refine hKo _ _ ?_
              clear hKo Ko
              clear cl0
              try simp only [Act.put, nm1, nm2, nm3, i64_w]
              refine wpList_plain rfl (fun Ko hKo => ?_)
              go_simp
              refine hKo _ _ ?_
              clear hKo Ko
              try simp only [Act.put, nm1, nm2, nm3, i64_w]
              refine step_index eI (T := 2) (wanted_none rfl) rfl (by kernel_rfl) (by kernel_rfl) rfl hl153.out rfl h150.rd A163.out ?_
              intro ad164 hat he
              have he165 := Aside0.mk he
              have hat166 := Aside0.mk hat
              clear he hat
              simp only [Act.put, nm1, nm2, nm3, i64_w]
              have hO0 := Aside0.mk h150
              have lb171 := Aside0.mk hO0.out.lt
              refine step_put eI (T := 2) (u := .int .i64 (wrap64 (t157 + 2))) (old := t162) (new := wrap64 (t157 + 2)) 0 rfl rfl rfl hat166.out (addr_add0 _).symm rfl rfl (by kernel_rfl) (by simp [Value.cells, Value.oneCell']) (Nat.le_of_ble_eq_true rfl) rfl hO0.out A163.out ?_
              intro w167 h169 hg
              have hg170 := Aside0.mk hg
              clear hO0 hg
              try simp only [Act.put, nm1, nm2, nm3, i64_w]
              have hl172 : Aside0 ((repl ((wrap64 (a1 + 2)).toNat) (0 : Int)).length = (((x80.set (x79).toNat (wrap64 ((wrap64 (2 * t99)) - t105))).set (x79).toNat (wrap64 (t128 - (wrap64 (4 * t134))))).set (x79).toNat (wrap64 (t157 + 2))).length) := Aside0.mk (hl153.out.trans (List.length_set ..).symm)
              refine wpList_nil ?_
              (try simp only [Exit.then, Exit.inBlock, ↓reduceIte, Nat.reduceEqDiff])
              refine hK154 _ _ ?_
              refine wp_region_lit ?_
              refine wpList_plain rfl (fun Ko hKo => ?_)
              go_simp
              refine hKo _ _ ?_
              clear hKo Ko
              try simp only [Act.put, nm1, nm2, nm3, i64_w]
              refine wpList_plain rfl (fun Ko hKo => ?_)
              go_simp
              refine hKo _ _ ?_
              clear hKo Ko
              try simp only [Act.put, nm1, nm2, nm3, i64_w]
              refine wpList_plain rfl (fun Ko hKo => ?_)
              go_simp
              refine hKo _ _ ?_
              clear hKo Ko
              try simp only [Act.put, nm1, nm2, nm3, i64_w]
              refine wpList_plain rfl (fun Ko hKo => ?_)
              go_simp
              refine hKo _ _ ?_
              clear hKo Ko
              try simp only [Act.put, nm1, nm2, nm3, i64_w]
              refine step_index eI (T := 2) (wanted_none rfl) rfl (by kernel_rfl) (by kernel_rfl) rfl hl172.out rfl h169.rd A174.out ?_
              intro ad175 hat he
              have he176 := Aside0.mk he
              have hat177 := Aside0.mk hat
              clear he hat
              simp only [Act.put, nm1, nm2, nm3, i64_w]
              have cl0 := he176.out 0 _ rfl
              rw [addr_add0] at cl0
              refine wpList_plain rfl (fun Ko hKo => ?_)
              go_simp
              refine hKo _ _ ?_
              clear hKo Ko
              clear cl0
              try simp only [Act.put, nm1, nm2, nm3, i64_w]
              refine wpList_plain rfl (fun Ko hKo => ?_)
              go_simp
              refine hKo _ _ ?_
              clear hKo Ko
              try simp only [Act.put, nm1, nm2, nm3, i64_w]
              refine step_call (wanted_none rfl) (by first | (go_simp; done) | (go_simp; rfl)) (spec_l01Mod.calls K t173 a0 t178 w167  A179.out) ?_
              rintro e w180 ⟨rfl, hu⟩
              have hu181 := Aside0.mk hu
              clear hu
              refine ⟨_, rfl, ?_⟩
              simp only [Act.put, nm1, nm2, nm3, i64_w]
              refine step_index eI (T := 2) (wanted_none rfl) rfl (by kernel_rfl) (by kernel_rfl) rfl hl172.out rfl (h169.up hu181.out).rd A183.out ?_
              intro ad184 hat he
              have he185 := Aside0.mk he
              have hat186 := Aside0.mk hat
              clear he hat
              simp only [Act.put, nm1, nm2, nm3, i64_w]
              have hO0 := Aside0.mk (h169.up hu181.out)
              have lb191 := Aside0.mk hO0.out.lt
              refine step_put eI (T := 2) (u := .int .i64 t178) (old := t182) (new := t178) 0 rfl rfl rfl hat186.out (addr_add0 _).symm rfl rfl (by kernel_rfl) (by simp [Value.cells, Value.oneCell']) (Nat.le_of_ble_eq_true rfl) rfl hO0.out A183.out ?_
              intro w187 h189 hg
              have hg190 := Aside0.mk hg
              clear hO0 hg
              try simp only [Act.put, nm1, nm2, nm3, i64_w]
              have hl192 : Aside0 ((repl ((wrap64 (a1 + 2)).toNat) (0 : Int)).length = ((((x80.set (x79).toNat (wrap64 ((wrap64 (2 * t99)) - t105))).set (x79).toNat (wrap64 (t128 - (wrap64 (4 * t134))))).set (x79).toNat (wrap64 (t157 + 2))).set (x79).toNat t178).length) := Aside0.mk (hl172.out.trans (List.length_set ..).symm)
              refine wpList_nil ?_
              (try simp only [Exit.then, Exit.inBlock, ↓reduceIte, Nat.reduceEqDiff])
              refine hK97 _ _ ?_
              refine wp_region_lit ?_
              refine wpList_plain rfl (fun Ko hKo => ?_)
              go_simp
              refine hKo _ _ ?_
              clear hKo Ko
              try simp only [Act.put, nm1, nm2, nm3, i64_w]
              refine wpList_plain rfl (fun Ko hKo => ?_)
              go_simp
              refine hKo _ _ ?_
              clear hKo Ko
              try simp only [Act.put, nm1, nm2, nm3, i64_w]
              refine wpList_plain rfl (fun Ko hKo => ?_)
              go_simp
              refine hKo _ _ ?_
              clear hKo Ko
              try simp only [Act.put, nm1, nm2, nm3, i64_w]
              refine wpList_nil ?_
              (try simp only [Exit.then, Exit.inBlock, ↓reduceIte, Nat.reduceEqDiff])
              refine hK93 _ _ ?_
              go_roundg k89
              case measure => exact Nat.lt_succ_self _
              case rel => exact ⟨wrap64 (x79 + 1), ((((x80.set (x79).toNat (wrap64 ((wrap64 (2 * t99)) - t105))).set (x79).toNat (wrap64 (t128 - (wrap64 (4 * t134))))).set (x79).toNat (wrap64 (t157 + 2))).set (x79).toNat t178), (by first | rfl | simp), HL193, ⟨by have := hk62.out; have := hk90.out; omega⟩, ⟨(((((((hu82.out.trans hu118.out).grow hg122.out (fun k hk => Nat.le_trans (Nat.le_refl _) ((fun k hk => (lb123.out k hk).1) k hk))).trans hu147.out).grow hg151.out (fun k hk => Nat.le_trans (Nat.le_refl _) ((fun k hk => (lb152.out k hk).1) k hk))).grow hg170.out (fun k hk => Nat.le_trans (Nat.le_refl _) ((fun k hk => (lb171.out k hk).1) k hk))).trans hu181.out).grow hg190.out (fun k hk => Nat.le_trans (Nat.le_refl _) ((fun k hk => (lb191.out k hk).1) k hk)))⟩, ⟨(Nat.le_trans ((Nat.le_trans ((Nat.le_trans ((Nat.le_trans ((Nat.le_trans ((Nat.le_trans ((Nat.le_trans ((Nat.le_trans (Nat.le_refl _) hz83.out)) hu118.out.size)) hg122.out.size)) hu147.out.size)) hg151.out.size)) hg170.out.size)) hu181.out.size)) hg190.out.size)⟩, h189, ⟨hl192.out⟩, ⟨(fun k l hk hl => hn87.out k l (blk_eq.symm.trans hk) hl)⟩, ⟨(fun k l hk hl => hn88.out k l (blk_eq.symm.trans hk) hl)⟩⟩
           ·
            rw [if_neg c156] at H
            replace c156 := Bool.eq_false_iff.mpr c156
            have c156n : (x79 != 1) = true := by rw [bne, c156]; rfl
            have c156p : ¬ x79 = 1 := fun e => by simp [e] at c156
            replace H := Option.bind_eq_some_iff.mp H
            obtain ⟨t194, A195, H⟩ := H
            replace A195 := Aside0.mk A195
            try dsimp only at H
            replace H := Option.bind_eq_some_iff.mp H
            obtain ⟨t199, A200, H⟩ := H
            replace A200 := Aside0.mk A200
            try dsimp only at H
            replace H := Option.bind_eq_some_iff.mp H
            obtain ⟨t203, A204, H⟩ := H
            replace A204 := Aside0.mk A204
            try dsimp only at H
            have HL214 := Aside0.mk H
            clear H
            refine wp_seq_k (fun K94 hK94 => ?_)
            refine wp_seq_k (fun K95 hK95 => ?_)
            refine wp_region_lit ?_
            refine wpList_plain rfl (fun Ko hKo => ?_)
            go_simp
            refine hKo _ _ ?_
            clear hKo Ko
            try simp only [Act.put, nm1, nm2, nm3, i64_w]
            refine wpList_plain rfl (fun Ko hKo => ?_)
            go_simp
            refine hKo _ _ ?_
            clear hKo Ko
            try simp only [Act.put, nm1, nm2, nm3, i64_w]
            refine wpList_plain rfl (fun Ko hKo => ?_)
            go_simp
            refine hKo _ _ ?_
            clear hKo Ko
            try simp only [Act.put, nm1, nm2, nm3, i64_w]
            refine wpList_nil ?_
            (try simp only [Exit.then, Exit.inBlock, ↓reduceIte, Nat.reduceEqDiff])
            refine hK95 _ _ ?_
            refine wp_cond_true rfl ?_
            refine wp_skip ?_
            (try simp only [Exit.then, Exit.inBlock, ↓reduceIte, Nat.reduceEqDiff])
            refine hK94 _ _ ?_
            refine wp_seq_k (fun K97 hK97 => ?_)
            refine wp_block ?_
            refine wp_seq_k (fun K98 hK98 => ?_)
            obtain ⟨ad101, hat, he⟩ := rd_at ((h59.up hu82.out).rd) A100.out
            have he102 := Aside0.mk he
            have hat104 := Aside0.mk hat
            clear he hat
            obtain ⟨ad107, hat, he⟩ := rd_at ((h58.up hu82.out).rd) A106.out
            have he108 := Aside0.mk he
            have hat110 := Aside0.mk hat
            clear he hat
            obtain ⟨ad113, hat, he⟩ := rd_at h85.rd A112.out
            have he114 := Aside0.mk he
            have hat116 := Aside0.mk hat
            clear he hat
            refine' wp_region_up 13 [Slot.det _, Slot.det _, Slot.det _, Slot.det _, Slot.det (.pointer (some ad101)), Slot.det _, Slot.det _, Slot.det _, Slot.det _, Slot.det (.pointer (some ad107)), Slot.det _, Slot.det _, Slot.det (.pointer (some ad113))] (by kernel_rfl) (by kernel_rfl) ?main
            case main =>
             simp only [List.take_succ_cons, List.take_zero]
             refine wpK_ops rfl (fun w1 hu => ?_) ?_
             · clear hu
               go_simp
               first | done | rfl
             simp only [Act.put, nm1, nm2, nm3, i64_w]
             refine wpK_ops rfl (fun w1 hu => ?_) ?_
             · clear hu
               go_simp
               first | done | rfl
             simp only [Act.put, nm1, nm2, nm3, i64_w]
             refine wpK_ops rfl (fun w1 hu => ?_) ?_
             · clear hu
               go_simp
               first | done | rfl
             simp only [Act.put, nm1, nm2, nm3, i64_w]
             refine wpK_ops rfl (fun w1 hu => ?_) ?_
             · clear hu
               go_simp
               first | done | rfl
             simp only [Act.put, nm1, nm2, nm3, i64_w]
             refine wpK_ops rfl (fun w1 hu => ?_) ?_
             · exact quiet_index eI (T := 2) rfl (by kernel_rfl) (by kernel_rfl) rfl rfl rfl hat104.out A100.out
             simp only [Act.put, nm1, nm2, nm3, i64_w]
             refine wpK_ops rfl (fun w1 hu => ?_) ?_
             · have cl0 := he102.out 0 _ rfl
               rw [addr_add0] at cl0
               replace cl0 := (((Up.refl _).drew.trans hu)).kept cl0
               go_simp
               first | done | rfl
             simp only [Act.put, nm1, nm2, nm3, i64_w]
             refine wpK_ops rfl (fun w1 hu => ?_) ?_
             · clear hu
               go_simp
               first | done | rfl
             simp only [Act.put, nm1, nm2, nm3, i64_w]
             refine wpK_ops rfl (fun w1 hu => ?_) ?_
             · clear hu
               go_simp
               first | done | rfl
             simp only [Act.put, nm1, nm2, nm3, i64_w]
             refine wpK_ops rfl (fun w1 hu => ?_) ?_
             · clear hu
               go_simp
               first | done | rfl
             simp only [Act.put, nm1, nm2, nm3, i64_w]
             refine wpK_ops rfl (fun w1 hu => ?_) ?_
             · exact quiet_index eI (T := 2) rfl (by kernel_rfl) (by kernel_rfl) rfl rfl rfl hat110.out A106.out
             simp only [Act.put, nm1, nm2, nm3, i64_w]
             refine wpK_ops rfl (fun w1 hu => ?_) ?_
             · have cl0 := he108.out 0 _ rfl
               rw [addr_add0] at cl0
               replace cl0 := (((Up.refl _).drew.trans hu)).kept cl0
               go_simp
               first | done | rfl
             simp only [Act.put, nm1, nm2, nm3, i64_w]
             refine wpK_ops rfl (fun w1 hu => ?_) ?_
             · clear hu
               go_simp
               first | done | rfl
             simp only [Act.put, nm1, nm2, nm3, i64_w]
             refine wpK_ops rfl (fun w1 hu => ?_) ?_
             · exact quiet_index eI (T := 2) rfl (by kernel_rfl) (by kernel_rfl) rfl hl86.out rfl hat116.out A112.out
             simp only [Act.put, nm1, nm2, nm3, i64_w]
             refine wpK_nil ?_
             intro w117 hu hap
             simp only [List.drop_succ_cons, List.drop_zero]
             replace hu := (Up.refl _).drew.trans hu
             clear hap
             have hu118 := Aside0.mk hu
             clear hu
             have hO0 := Aside0.mk (h85.up hu118.out)
             have lb123 := Aside0.mk hO0.out.lt
             refine step_put eI (T := 2) (u := .int .i64 (wrap64 ((wrap64 (2 * t99)) - t105))) (old := t111) (new := wrap64 ((wrap64 (2 * t99)) - t105)) 0 rfl rfl rfl hat116.out (addr_add0 _).symm rfl rfl (by kernel_rfl) (by simp [Value.cells, Value.oneCell']) (Nat.le_of_ble_eq_true rfl) rfl hO0.out A112.out ?_
             intro w119 h121 hg
             have hg122 := Aside0.mk hg
             clear hO0 hg
             try simp only [Act.put, nm1, nm2, nm3, i64_w]
             have hl124 : Aside0 ((repl ((wrap64 (a1 + 2)).toNat) (0 : Int)).length = (x80.set (x79).toNat (wrap64 ((wrap64 (2 * t99)) - t105))).length) := Aside0.mk (hl86.out.trans (List.length_set ..).symm)
             refine wpList_nil ?_
             (try simp only [Exit.then, Exit.inBlock, ↓reduceIte, Nat.reduceEqDiff])
             refine hK98 _ _ ?_
             refine wp_seq_k (fun K125 hK125 => ?_)
             refine wp_seq_k (fun K126 hK126 => ?_)
             refine wp_region_lit ?_
             refine wpList_plain rfl (fun Ko hKo => ?_)
             go_simp
             refine hKo _ _ ?_
             clear hKo Ko
             try simp only [Act.put, nm1, nm2, nm3, i64_w]
             refine wpList_plain rfl (fun Ko hKo => ?_)
             go_simp
             refine hKo _ _ ?_
             clear hKo Ko
             try simp only [Act.put, nm1, nm2, nm3, i64_w]
             refine wpList_nil ?_
             (try simp only [Exit.then, Exit.inBlock, ↓reduceIte, Nat.reduceEqDiff])
             refine hK126 _ _ ?_
             refine wp_cond_true rfl ?_
             obtain ⟨ad130, hat, he⟩ := rd_at h121.rd A129.out
             have he131 := Aside0.mk he
             have hat133 := Aside0.mk hat
             clear he hat
             obtain ⟨ad136, hat, he⟩ := rd_at ((h59.up ((hu82.out.trans hu118.out).grow hg122.out (fun k hk => Nat.le_trans (Nat.le_refl _) ((fun k hk => (lb123.out k hk).1) k hk)))).rd) A135.out
             have he137 := Aside0.mk he
             have hat139 := Aside0.mk hat
             clear he hat
             obtain ⟨ad142, hat, he⟩ := rd_at h121.rd A141.out
             have he143 := Aside0.mk he
             have hat145 := Aside0.mk hat
             clear he hat
             refine' wp_region_up 14 [Slot.det _, Slot.det _, Slot.det _, Slot.det _, Slot.det (.pointer (some ad130)), Slot.det _, Slot.det _, Slot.det _, Slot.det _, Slot.det (.pointer (some ad136)), Slot.det _, Slot.det _, Slot.det _, Slot.det (.pointer (some ad142))] (by kernel_rfl) (by kernel_rfl) ?main
             case main =>
              simp only [List.take_succ_cons, List.take_zero]
              refine wpK_ops rfl (fun w1 hu => ?_) ?_
              · clear hu
                go_simp
                first | done | rfl
              simp only [Act.put, nm1, nm2, nm3, i64_w]
              refine wpK_ops rfl (fun w1 hu => ?_) ?_
              · clear hu
                go_simp
                first | done | rfl
              simp only [Act.put, nm1, nm2, nm3, i64_w]
              refine wpK_ops rfl (fun w1 hu => ?_) ?_
              · clear hu
                go_simp
                first | done | rfl
              simp only [Act.put, nm1, nm2, nm3, i64_w]
              refine wpK_ops rfl (fun w1 hu => ?_) ?_
              · clear hu
                go_simp
                first | done | rfl
              simp only [Act.put, nm1, nm2, nm3, i64_w]
              refine wpK_ops rfl (fun w1 hu => ?_) ?_
              · exact quiet_index eI (T := 2) rfl (by kernel_rfl) (by kernel_rfl) rfl hl124.out rfl hat133.out A129.out
              simp only [Act.put, nm1, nm2, nm3, i64_w]
              refine wpK_ops rfl (fun w1 hu => ?_) ?_
              · have cl0 := he131.out 0 _ rfl
                rw [addr_add0] at cl0
                replace cl0 := (((Up.refl _).drew.trans hu)).kept cl0
                go_simp
                first | done | rfl
              simp only [Act.put, nm1, nm2, nm3, i64_w]
              refine wpK_ops rfl (fun w1 hu => ?_) ?_
              · clear hu
                go_simp
                first | done | rfl
              simp only [Act.put, nm1, nm2, nm3, i64_w]
              refine wpK_ops rfl (fun w1 hu => ?_) ?_
              · clear hu
                go_simp
                first | done | rfl
              simp only [Act.put, nm1, nm2, nm3, i64_w]
              refine wpK_ops rfl (fun w1 hu => ?_) ?_
              · clear hu
                go_simp
                first | done | rfl
              simp only [Act.put, nm1, nm2, nm3, i64_w]
              refine wpK_ops rfl (fun w1 hu => ?_) ?_
              · exact quiet_index eI (T := 2) rfl (by kernel_rfl) (by kernel_rfl) rfl rfl rfl hat139.out A135.out
              simp only [Act.put, nm1, nm2, nm3, i64_w]
              refine wpK_ops rfl (fun w1 hu => ?_) ?_
              · have cl0 := he137.out 0 _ rfl
                rw [addr_add0] at cl0
                replace cl0 := (((Up.refl _).drew.trans hu)).kept cl0
                go_simp
                first | done | rfl
              simp only [Act.put, nm1, nm2, nm3, i64_w]
              refine wpK_ops rfl (fun w1 hu => ?_) ?_
              · clear hu
                go_simp
                first | done | rfl
              simp only [Act.put, nm1, nm2, nm3, i64_w]
              refine wpK_ops rfl (fun w1 hu => ?_) ?_
              · clear hu
                go_simp
                first | done | rfl
              simp only [Act.put, nm1, nm2, nm3, i64_w]
              refine wpK_ops rfl (fun w1 hu => ?_) ?_
              · exact quiet_index eI (T := 2) rfl (by kernel_rfl) (by kernel_rfl) rfl hl124.out rfl hat145.out A141.out
              simp only [Act.put, nm1, nm2, nm3, i64_w]
              refine wpK_nil ?_
              intro w146 hu hap
              simp only [List.drop_succ_cons, List.drop_zero]
              replace hu := (Up.refl _).drew.trans hu
              clear hap
              have hu147 := Aside0.mk hu
              clear hu
              have hO0 := Aside0.mk (h121.up hu147.out)
              have lb152 := Aside0.mk hO0.out.lt
              refine step_put eI (T := 2) (u := .int .i64 (wrap64 (t128 - (wrap64 (4 * t134))))) (old := t140) (new := wrap64 (t128 - (wrap64 (4 * t134)))) 0 rfl rfl rfl hat145.out (addr_add0 _).symm rfl rfl (by kernel_rfl) (by simp [Value.cells, Value.oneCell']) (Nat.le_of_ble_eq_true rfl) rfl hO0.out A141.out ?_
              intro w148 h150 hg
              have hg151 := Aside0.mk hg
              clear hO0 hg
              try simp only [Act.put, nm1, nm2, nm3, i64_w]
              have hl153 : Aside0 ((repl ((wrap64 (a1 + 2)).toNat) (0 : Int)).length = ((x80.set (x79).toNat (wrap64 ((wrap64 (2 * t99)) - t105))).set (x79).toNat (wrap64 (t128 - (wrap64 (4 * t134))))).length) := Aside0.mk (hl124.out.trans (List.length_set ..).symm)
              refine wpList_nil ?_
              (try simp only [Exit.then, Exit.inBlock, ↓reduceIte, Nat.reduceEqDiff])
              refine hK125 _ _ ?_
              refine wp_seq_k (fun K154 hK154 => ?_)
              refine wp_seq_k (fun K155 hK155 => ?_)
              refine wp_region_lit ?_
              refine wpList_plain rfl (fun Ko hKo => ?_)
              go_simp
              refine hKo _ _ ?_
              clear hKo Ko
              try simp only [Act.put, nm1, nm2, nm3, i64_w]
              refine wpList_plain rfl (fun Ko hKo => ?_)
              go_simp
              refine hKo _ _ ?_
              clear hKo Ko
              try simp only [Act.put, nm1, nm2, nm3, i64_w]
              refine wpList_nil ?_
              (try simp only [Exit.then, Exit.inBlock, ↓reduceIte, Nat.reduceEqDiff])
              refine hK155 _ _ ?_
              refine wp_cond_false rfl ?_
              refine wp_skip ?_
              (try simp only [Exit.then, Exit.inBlock, ↓reduceIte, Nat.reduceEqDiff])
              refine hK154 _ _ ?_
              refine wp_region_lit ?_
              refine wpList_plain rfl (fun Ko hKo => ?_)
              go_simp
              refine hKo _ _ ?_
              clear hKo Ko
              try simp only [Act.put, nm1, nm2, nm3, i64_w]
              refine wpList_plain rfl (fun Ko hKo => ?_)
              go_simp
              refine hKo _ _ ?_
              clear hKo Ko
              try simp only [Act.put, nm1, nm2, nm3, i64_w]
              refine wpList_plain rfl (fun Ko hKo => ?_)
              go_simp
              refine hKo _ _ ?_
              clear hKo Ko
              try simp only [Act.put, nm1, nm2, nm3, i64_w]
              refine wpList_plain rfl (fun Ko hKo => ?_)
              go_simp
              refine hKo _ _ ?_
              clear hKo Ko
              try simp only [Act.put, nm1, nm2, nm3, i64_w]
              refine step_index eI (T := 2) (wanted_none rfl) rfl (by kernel_rfl) (by kernel_rfl) rfl hl153.out rfl h150.rd A195.out ?_
              intro ad196 hat he
              have he197 := Aside0.mk he
              have hat198 := Aside0.mk hat
              clear he hat
              simp only [Act.put, nm1, nm2, nm3, i64_w]
              have cl0 := he197.out 0 _ rfl
              rw [addr_add0] at cl0
              refine wpList_plain rfl (fun Ko hKo => ?_)
              go_simp
              refine hKo _ _ ?_
              clear hKo Ko
              clear cl0
              try simp only [Act.put, nm1, nm2, nm3, i64_w]
              refine wpList_plain rfl (fun Ko hKo => ?_)
              go_simp
              refine hKo _ _ ?_
              clear hKo Ko
              try simp only [Act.put, nm1, nm2, nm3, i64_w]
              refine step_call (wanted_none rfl) (by first | (go_simp; done) | (go_simp; rfl)) (spec_l01Mod.calls K t194 a0 t199 w148  A200.out) ?_
              rintro e w201 ⟨rfl, hu⟩
              have hu202 := Aside0.mk hu
              clear hu
              refine ⟨_, rfl, ?_⟩
              simp only [Act.put, nm1, nm2, nm3, i64_w]
              refine step_index eI (T := 2) (wanted_none rfl) rfl (by kernel_rfl) (by kernel_rfl) rfl hl153.out rfl (h150.up hu202.out).rd A204.out ?_
              intro ad205 hat he
              have he206 := Aside0.mk he
              have hat207 := Aside0.mk hat
              clear he hat
              simp only [Act.put, nm1, nm2, nm3, i64_w]
              have hO0 := Aside0.mk (h150.up hu202.out)
              have lb212 := Aside0.mk hO0.out.lt
              refine step_put eI (T := 2) (u := .int .i64 t199) (old := t203) (new := t199) 0 rfl rfl rfl hat207.out (addr_add0 _).symm rfl rfl (by kernel_rfl) (by simp [Value.cells, Value.oneCell']) (Nat.le_of_ble_eq_true rfl) rfl hO0.out A204.out ?_
              intro w208 h210 hg
              have hg211 := Aside0.mk hg
              clear hO0 hg
              try simp only [Act.put, nm1, nm2, nm3, i64_w]
              have hl213 : Aside0 ((repl ((wrap64 (a1 + 2)).toNat) (0 : Int)).length = (((x80.set (x79).toNat (wrap64 ((wrap64 (2 * t99)) - t105))).set (x79).toNat (wrap64 (t128 - (wrap64 (4 * t134))))).set (x79).toNat t199).length) := Aside0.mk (hl153.out.trans (List.length_set ..).symm)
              refine wpList_nil ?_
              (try simp only [Exit.then, Exit.inBlock, ↓reduceIte, Nat.reduceEqDiff])
              refine hK97 _ _ ?_
              refine wp_region_lit ?_
              refine wpList_plain rfl (fun Ko hKo => ?_)
              go_simp
              refine hKo _ _ ?_
              clear hKo Ko
              try simp only [Act.put, nm1, nm2, nm3, i64_w]
              refine wpList_plain rfl (fun Ko hKo => ?_)
              go_simp
              refine hKo _ _ ?_
              clear hKo Ko
              try simp only [Act.put, nm1, nm2, nm3, i64_w]
              refine wpList_plain rfl (fun Ko hKo => ?_)
              go_simp
              refine hKo _ _ ?_
              clear hKo Ko
              try simp only [Act.put, nm1, nm2, nm3, i64_w]
              refine wpList_nil ?_
              (try simp only [Exit.then, Exit.inBlock, ↓reduceIte, Nat.reduceEqDiff])
              refine hK93 _ _ ?_
              go_roundg k89
              case measure => exact Nat.lt_succ_self _
              case rel => exact ⟨wrap64 (x79 + 1), (((x80.set (x79).toNat (wrap64 ((wrap64 (2 * t99)) - t105))).set (x79).toNat (wrap64 (t128 - (wrap64 (4 * t134))))).set (x79).toNat t199), (by first | rfl | simp), HL214, ⟨by have := hk62.out; have := hk90.out; omega⟩, ⟨((((((hu82.out.trans hu118.out).grow hg122.out (fun k hk => Nat.le_trans (Nat.le_refl _) ((fun k hk => (lb123.out k hk).1) k hk))).trans hu147.out).grow hg151.out (fun k hk => Nat.le_trans (Nat.le_refl _) ((fun k hk => (lb152.out k hk).1) k hk))).trans hu202.out).grow hg211.out (fun k hk => Nat.le_trans (Nat.le_refl _) ((fun k hk => (lb212.out k hk).1) k hk)))⟩, ⟨(Nat.le_trans ((Nat.le_trans ((Nat.le_trans ((Nat.le_trans ((Nat.le_trans ((Nat.le_trans ((Nat.le_trans (Nat.le_refl _) hz83.out)) hu118.out.size)) hg122.out.size)) hu147.out.size)) hg151.out.size)) hu202.out.size)) hg211.out.size)⟩, h210, ⟨hl213.out⟩, ⟨(fun k l hk hl => hn87.out k l (blk_eq.symm.trans hk) hl)⟩, ⟨(fun k l hk hl => hn88.out k l (blk_eq.symm.trans hk) hl)⟩⟩
          ·
           rw [if_neg c127] at H
           replace c127 := Bool.eq_false_iff.mpr c127
           by_cases c217 : (x79 == 1) = true
           ·
            rw [if_pos c217] at H
            have c217n : (x79 != 1) = false := by rw [bne, c217]; rfl
            replace H := Option.bind_eq_some_iff.mp H
            obtain ⟨t218, A219, H⟩ := H
            replace A219 := Aside0.mk A219
            try dsimp only at H
            replace H := Option.bind_eq_some_iff.mp H
            obtain ⟨t223, A224, H⟩ := H
            replace A224 := Aside0.mk A224
            try dsimp only at H
            replace H := Option.bind_eq_some_iff.mp H
            obtain ⟨t234, A235, H⟩ := H
            replace A235 := Aside0.mk A235
            try dsimp only at H
            replace H := Option.bind_eq_some_iff.mp H
            obtain ⟨t239, A240, H⟩ := H
            replace A240 := Aside0.mk A240
            try dsimp only at H
            replace H := Option.bind_eq_some_iff.mp H
            obtain ⟨t243, A244, H⟩ := H
            replace A244 := Aside0.mk A244
            try dsimp only at H
            have HL254 := Aside0.mk H
            clear H
            refine wp_seq_k (fun K94 hK94 => ?_)
            refine wp_seq_k (fun K95 hK95 => ?_)
            refine wp_region_lit ?_
            refine wpList_plain rfl (fun Ko hKo => ?_)
            go_simp
            refine hKo _ _ ?_
            clear hKo Ko
            try simp only [Act.put, nm1, nm2, nm3, i64_w]
            refine wpList_plain rfl (fun Ko hKo => ?_)
            go_simp
            refine hKo _ _ ?_
            clear hKo Ko
            try simp only [Act.put, nm1, nm2, nm3, i64_w]
            refine wpList_plain rfl (fun Ko hKo => ?_)
            go_simp
            refine hKo _ _ ?_
            clear hKo Ko
            try simp only [Act.put, nm1, nm2, nm3, i64_w]
            refine wpList_nil ?_
            (try simp only [Exit.then, Exit.inBlock, ↓reduceIte, Nat.reduceEqDiff])
            refine hK95 _ _ ?_
            refine wp_cond_true rfl ?_
            refine wp_skip ?_
            (try simp only [Exit.then, Exit.inBlock, ↓reduceIte, Nat.reduceEqDiff])
            refine hK94 _ _ ?_
            refine wp_seq_k (fun K97 hK97 => ?_)
            refine wp_block ?_
            refine wp_seq_k (fun K98 hK98 => ?_)
            obtain ⟨ad101, hat, he⟩ := rd_at ((h59.up hu82.out).rd) A100.out
            have he102 := Aside0.mk he
            have hat104 := Aside0.mk hat
            clear he hat
            obtain ⟨ad107, hat, he⟩ := rd_at ((h58.up hu82.out).rd) A106.out
            have he108 := Aside0.mk he
            have hat110 := Aside0.mk hat
            clear he hat
            obtain ⟨ad113, hat, he⟩ := rd_at h85.rd A112.out
            have he114 := Aside0.mk he
            have hat116 := Aside0.mk hat
            clear he hat
            refine' wp_region_up 13 [Slot.det _, Slot.det _, Slot.det _, Slot.det _, Slot.det (.pointer (some ad101)), Slot.det _, Slot.det _, Slot.det _, Slot.det _, Slot.det (.pointer (some ad107)), Slot.det _, Slot.det _, Slot.det (.pointer (some ad113))] (by kernel_rfl) (by kernel_rfl) ?main
            case main =>
             simp only [List.take_succ_cons, List.take_zero]
             refine wpK_ops rfl (fun w1 hu => ?_) ?_
             · clear hu
               go_simp
               first | done | rfl
             simp only [Act.put, nm1, nm2, nm3, i64_w]
             refine wpK_ops rfl (fun w1 hu => ?_) ?_
             · clear hu
               go_simp
               first | done | rfl
             simp only [Act.put, nm1, nm2, nm3, i64_w]
             refine wpK_ops rfl (fun w1 hu => ?_) ?_
             · clear hu
               go_simp
               first | done | rfl
             simp only [Act.put, nm1, nm2, nm3, i64_w]
             refine wpK_ops rfl (fun w1 hu => ?_) ?_
             · clear hu
               go_simp
               first | done | rfl
             simp only [Act.put, nm1, nm2, nm3, i64_w]
             refine wpK_ops rfl (fun w1 hu => ?_) ?_
             · exact quiet_index eI (T := 2) rfl (by kernel_rfl) (by kernel_rfl) rfl rfl rfl hat104.out A100.out
             simp only [Act.put, nm1, nm2, nm3, i64_w]
             refine wpK_ops rfl (fun w1 hu => ?_) ?_
             · have cl0 := he102.out 0 _ rfl
               rw [addr_add0] at cl0
               replace cl0 := (((Up.refl _).drew.trans hu)).kept cl0
               go_simp
               first | done | rfl
             simp only [Act.put, nm1, nm2, nm3, i64_w]
             refine wpK_ops rfl (fun w1 hu => ?_) ?_
             · clear hu
               go_simp
               first | done | rfl
             simp only [Act.put, nm1, nm2, nm3, i64_w]
             refine wpK_ops rfl (fun w1 hu => ?_) ?_
             · clear hu
               go_simp
               first | done | rfl
             simp only [Act.put, nm1, nm2, nm3, i64_w]
             refine wpK_ops rfl (fun w1 hu => ?_) ?_
             · clear hu
               go_simp
               first | done | rfl
             simp only [Act.put, nm1, nm2, nm3, i64_w]
             refine wpK_ops rfl (fun w1 hu => ?_) ?_
             · exact quiet_index eI (T := 2) rfl (by kernel_rfl) (by kernel_rfl) rfl rfl rfl hat110.out A106.out
             simp only [Act.put, nm1, nm2, nm3, i64_w]
             refine wpK_ops rfl (fun w1 hu => ?_) ?_
             · have cl0 := he108.out 0 _ rfl
               rw [addr_add0] at cl0
               replace cl0 := (((Up.refl _).drew.trans hu)).kept cl0
               go_simp
               first | done | rfl
             simp only [Act.put, nm1, nm2, nm3, i64_w]
             refine wpK_ops rfl (fun w1 hu => ?_) ?_
             · clear hu
               go_simp
               first | done | rfl
             simp only [Act.put, nm1, nm2, nm3, i64_w]
             refine wpK_ops rfl (fun w1 hu => ?_) ?_
             · exact quiet_index eI (T := 2) rfl (by kernel_rfl) (by kernel_rfl) rfl hl86.out rfl hat116.out A112.out
             simp only [Act.put, nm1, nm2, nm3, i64_w]
             refine wpK_nil ?_
             intro w117 hu hap
             simp only [List.drop_succ_cons, List.drop_zero]
             replace hu := (Up.refl _).drew.trans hu
             clear hap
             have hu118 := Aside0.mk hu
             clear hu
             have hO0 := Aside0.mk (h85.up hu118.out)
             have lb123 := Aside0.mk hO0.out.lt
             refine step_put eI (T := 2) (u := .int .i64 (wrap64 ((wrap64 (2 * t99)) - t105))) (old := t111) (new := wrap64 ((wrap64 (2 * t99)) - t105)) 0 rfl rfl rfl hat116.out (addr_add0 _).symm rfl rfl (by kernel_rfl) (by simp [Value.cells, Value.oneCell']) (Nat.le_of_ble_eq_true rfl) rfl hO0.out A112.out ?_
             intro w119 h121 hg
             have hg122 := Aside0.mk hg
             clear hO0 hg
             try simp only [Act.put, nm1, nm2, nm3, i64_w]
             have hl124 : Aside0 ((repl ((wrap64 (a1 + 2)).toNat) (0 : Int)).length = (x80.set (x79).toNat (wrap64 ((wrap64 (2 * t99)) - t105))).length) := Aside0.mk (hl86.out.trans (List.length_set ..).symm)
             refine wpList_nil ?_
             (try simp only [Exit.then, Exit.inBlock, ↓reduceIte, Nat.reduceEqDiff])
             refine hK98 _ _ ?_
             refine wp_seq_k (fun K125 hK125 => ?_)
             refine wp_seq_k (fun K126 hK126 => ?_)
             refine wp_region_lit ?_
             refine wpList_plain rfl (fun Ko hKo => ?_)
             go_simp
             refine hKo _ _ ?_
             clear hKo Ko
             try simp only [Act.put, nm1, nm2, nm3, i64_w]
             refine wpList_plain rfl (fun Ko hKo => ?_)
             go_simp
             refine hKo _ _ ?_
             clear hKo Ko
             try simp only [Act.put, nm1, nm2, nm3, i64_w]
             refine wpList_nil ?_
             (try simp only [Exit.then, Exit.inBlock, ↓reduceIte, Nat.reduceEqDiff])
             refine hK126 _ _ ?_
             refine wp_cond_false rfl ?_
             refine wp_skip ?_
             (try simp only [Exit.then, Exit.inBlock, ↓reduceIte, Nat.reduceEqDiff])
             refine hK125 _ _ ?_
             refine wp_seq_k (fun K215 hK215 => ?_)
             refine wp_seq_k (fun K216 hK216 => ?_)
             refine wp_region_lit ?_
             refine wpList_plain rfl (fun Ko hKo => ?_)
             go_simp
             refine hKo _ _ ?_
             clear hKo Ko
             try simp only [Act.put, nm1, nm2, nm3, i64_w]
             refine wpList_plain rfl (fun Ko hKo => ?_)
             go_simp
             refine hKo _ _ ?_
             clear hKo Ko
             try simp only [Act.put, nm1, nm2, nm3, i64_w]
             refine wpList_nil ?_
             (try simp only [Exit.then, Exit.inBlock, ↓reduceIte, Nat.reduceEqDiff])
             refine hK216 _ _ ?_
             refine wp_cond_true rfl ?_
             refine wp_region_lit ?_
             refine wpList_plain rfl (fun Ko hKo => ?_)
             go_simp
             refine hKo _ _ ?_
             clear hKo Ko
             try simp only [Act.put, nm1, nm2, nm3, i64_w]
             refine wpList_plain rfl (fun Ko hKo => ?_)
             go_simp
             refine hKo _ _ ?_
             clear hKo Ko
             try simp only [Act.put, nm1, nm2, nm3, i64_w]
             refine wpList_plain rfl (fun Ko hKo => ?_)
             go_simp
             refine hKo _ _ ?_
             clear hKo Ko
             try simp only [Act.put, nm1, nm2, nm3, i64_w]
             refine wpList_plain rfl (fun Ko hKo => ?_)
             go_simp
             refine hKo _ _ ?_
             clear hKo Ko
             try simp only [Act.put, nm1, nm2, nm3, i64_w]
             refine step_index eI (T := 2) (wanted_none rfl) rfl (by kernel_rfl) (by kernel_rfl) rfl hl124.out rfl h121.rd A219.out ?_
             intro ad220 hat he
             have he221 := Aside0.mk he
             have hat222 := Aside0.mk hat
             clear he hat
             simp only [Act.put, nm1, nm2, nm3, i64_w]
             have cl0 := he221.out 0 _ rfl
             rw [addr_add0] at cl0
             refine wpList_plain rfl (fun Ko hKo => ?_)
             go_simp
             refine hKo _ _ ?_
             clear hKo Ko
             clear cl0
             try simp only [Act.put, nm1, nm2, nm3, i64_w]
             refine wpList_plain rfl (fun Ko hKo => ?_)
             go_simp
             refine hKo _ _ ?_
             clear hKo Ko
             try simp only [Act.put, nm1, nm2, nm3, i64_w]
             refine step_index eI (T := 2) (wanted_none rfl) rfl (by kernel_rfl) (by kernel_rfl) rfl hl124.out rfl h121.rd A224.out ?_
             intro ad225 hat he
             have he226 := Aside0.mk he
             have hat227 := Aside0.mk hat
             clear he hat
             simp only [Act.put, nm1, nm2, nm3, i64_w]
             have hO0 := Aside0.mk h121
             have lb232 := Aside0.mk hO0.out.lt
             refine step_put eI (T := 2) (u := .int .i64 (wrap64 (t218 + 2))) (old := t223) (new := wrap64 (t218 + 2)) 0 rfl rfl rfl hat227.out (addr_add0 _).symm rfl rfl (by kernel_rfl) (by simp [Value.cells, Value.oneCell']) (Nat.le_of_ble_eq_true rfl) rfl hO0.out A224.out ?_
             intro w228 h230 hg
             have hg231 := Aside0.mk hg
             clear hO0 hg
             try simp only [Act.put, nm1, nm2, nm3, i64_w]
             have hl233 : Aside0 ((repl ((wrap64 (a1 + 2)).toNat) (0 : Int)).length = ((x80.set (x79).toNat (wrap64 ((wrap64 (2 * t99)) - t105))).set (x79).toNat (wrap64 (t218 + 2))).length) := Aside0.mk (hl124.out.trans (List.length_set ..).symm)
             refine wpList_nil ?_
             (try simp only [Exit.then, Exit.inBlock, ↓reduceIte, Nat.reduceEqDiff])
             refine hK215 _ _ ?_
             refine wp_region_lit ?_
             refine wpList_plain rfl (fun Ko hKo => ?_)
             go_simp
             refine hKo _ _ ?_
             clear hKo Ko
             try simp only [Act.put, nm1, nm2, nm3, i64_w]
             refine wpList_plain rfl (fun Ko hKo => ?_)
             go_simp
             refine hKo _ _ ?_
             clear hKo Ko
             try simp only [Act.put, nm1, nm2, nm3, i64_w]
             refine wpList_plain rfl (fun Ko hKo => ?_)
             go_simp
             refine hKo _ _ ?_
             clear hKo Ko
             try simp only [Act.put, nm1, nm2, nm3, i64_w]
             refine wpList_plain rfl (fun Ko hKo => ?_)
             go_simp
             refine hKo _ _ ?_
             clear hKo Ko
             try simp only [Act.put, nm1, nm2, nm3, i64_w]
             refine step_index eI (T := 2) (wanted_none rfl) rfl (by kernel_rfl) (by kernel_rfl) rfl hl233.out rfl h230.rd A235.out ?_
             intro ad236 hat he
             have he237 := Aside0.mk he
             have hat238 := Aside0.mk hat
             clear he hat
             simp only [Act.put, nm1, nm2, nm3, i64_w]
             have cl0 := he237.out 0 _ rfl
             rw [addr_add0] at cl0
             refine wpList_plain rfl (fun Ko hKo => ?_)
             go_simp
             refine hKo _ _ ?_
             clear hKo Ko
             clear cl0
             try simp only [Act.put, nm1, nm2, nm3, i64_w]
             refine wpList_plain rfl (fun Ko hKo => ?_)
             go_simp
             refine hKo _ _ ?_
             clear hKo Ko
             try simp only [Act.put, nm1, nm2, nm3, i64_w]
             refine step_call (wanted_none rfl) (by first | (go_simp; done) | (go_simp; rfl)) (spec_l01Mod.calls K t234 a0 t239 w228  A240.out) ?_
             rintro e w241 ⟨rfl, hu⟩
             have hu242 := Aside0.mk hu
             clear hu
             refine ⟨_, rfl, ?_⟩
             simp only [Act.put, nm1, nm2, nm3, i64_w]
             refine step_index eI (T := 2) (wanted_none rfl) rfl (by kernel_rfl) (by kernel_rfl) rfl hl233.out rfl (h230.up hu242.out).rd A244.out ?_
             intro ad245 hat he
             have he246 := Aside0.mk he
             have hat247 := Aside0.mk hat
             clear he hat
             simp only [Act.put, nm1, nm2, nm3, i64_w]
             have hO0 := Aside0.mk (h230.up hu242.out)
             have lb252 := Aside0.mk hO0.out.lt
             refine step_put eI (T := 2) (u := .int .i64 t239) (old := t243) (new := t239) 0 rfl rfl rfl hat247.out (addr_add0 _).symm rfl rfl (by kernel_rfl) (by simp [Value.cells, Value.oneCell']) (Nat.le_of_ble_eq_true rfl) rfl hO0.out A244.out ?_
             intro w248 h250 hg
             have hg251 := Aside0.mk hg
             clear hO0 hg
             try simp only [Act.put, nm1, nm2, nm3, i64_w]
             have hl253 : Aside0 ((repl ((wrap64 (a1 + 2)).toNat) (0 : Int)).length = (((x80.set (x79).toNat (wrap64 ((wrap64 (2 * t99)) - t105))).set (x79).toNat (wrap64 (t218 + 2))).set (x79).toNat t239).length) := Aside0.mk (hl233.out.trans (List.length_set ..).symm)
             refine wpList_nil ?_
             (try simp only [Exit.then, Exit.inBlock, ↓reduceIte, Nat.reduceEqDiff])
             refine hK97 _ _ ?_
             refine wp_region_lit ?_
             refine wpList_plain rfl (fun Ko hKo => ?_)
             go_simp
             refine hKo _ _ ?_
             clear hKo Ko
             try simp only [Act.put, nm1, nm2, nm3, i64_w]
             refine wpList_plain rfl (fun Ko hKo => ?_)
             go_simp
             refine hKo _ _ ?_
             clear hKo Ko
             try simp only [Act.put, nm1, nm2, nm3, i64_w]
             refine wpList_plain rfl (fun Ko hKo => ?_)
             go_simp
             refine hKo _ _ ?_
             clear hKo Ko
             try simp only [Act.put, nm1, nm2, nm3, i64_w]
             refine wpList_nil ?_
             (try simp only [Exit.then, Exit.inBlock, ↓reduceIte, Nat.reduceEqDiff])
             refine hK93 _ _ ?_
             go_roundg k89
             case measure => exact Nat.lt_succ_self _
             case rel => exact ⟨wrap64 (x79 + 1), (((x80.set (x79).toNat (wrap64 ((wrap64 (2 * t99)) - t105))).set (x79).toNat (wrap64 (t218 + 2))).set (x79).toNat t239), (by first | rfl | simp), HL254, ⟨by have := hk62.out; have := hk90.out; omega⟩, ⟨(((((hu82.out.trans hu118.out).grow hg122.out (fun k hk => Nat.le_trans (Nat.le_refl _) ((fun k hk => (lb123.out k hk).1) k hk))).grow hg231.out (fun k hk => Nat.le_trans (Nat.le_refl _) ((fun k hk => (lb232.out k hk).1) k hk))).trans hu242.out).grow hg251.out (fun k hk => Nat.le_trans (Nat.le_refl _) ((fun k hk => (lb252.out k hk).1) k hk)))⟩, ⟨(Nat.le_trans ((Nat.le_trans ((Nat.le_trans ((Nat.le_trans ((Nat.le_trans ((Nat.le_trans (Nat.le_refl _) hz83.out)) hu118.out.size)) hg122.out.size)) hg231.out.size)) hu242.out.size)) hg251.out.size)⟩, h250, ⟨hl253.out⟩, ⟨(fun k l hk hl => hn87.out k l (blk_eq.symm.trans hk) hl)⟩, ⟨(fun k l hk hl => hn88.out k l (blk_eq.symm.trans hk) hl)⟩⟩
           ·
            rw [if_neg c217] at H
            replace c217 := Bool.eq_false_iff.mpr c217
            have c217n : (x79 != 1) = true := by rw [bne, c217]; rfl
            have c217p : ¬ x79 = 1 := fun e => by simp [e] at c217
            replace H := Option.bind_eq_some_iff.mp H
            obtain ⟨t255, A256, H⟩ := H
            replace A256 := Aside0.mk A256
            try dsimp only at H
            replace H := Option.bind_eq_some_iff.mp H
            obtain ⟨t260, A261, H⟩ := H
            replace A261 := Aside0.mk A261
            try dsimp only at H
            replace H := Option.bind_eq_some_iff.mp H
            obtain ⟨t264, A265, H⟩ := H
            replace A265 := Aside0.mk A265
            try dsimp only at H
            have HL275 := Aside0.mk H
            clear H
            refine wp_seq_k (fun K94 hK94 => ?_)
            refine wp_seq_k (fun K95 hK95 => ?_)
            refine wp_region_lit ?_
            refine wpList_plain rfl (fun Ko hKo => ?_)
            go_simp
            refine hKo _ _ ?_
            clear hKo Ko
            try simp only [Act.put, nm1, nm2, nm3, i64_w]
            refine wpList_plain rfl (fun Ko hKo => ?_)
            go_simp
            refine hKo _ _ ?_
            clear hKo Ko
            try simp only [Act.put, nm1, nm2, nm3, i64_w]
            refine wpList_plain rfl (fun Ko hKo => ?_)
            go_simp
            refine hKo _ _ ?_
            clear hKo Ko
            try simp only [Act.put, nm1, nm2, nm3, i64_w]
            refine wpList_nil ?_
            (try simp only [Exit.then, Exit.inBlock, ↓reduceIte, Nat.reduceEqDiff])
            refine hK95 _ _ ?_
            refine wp_cond_true rfl ?_
            refine wp_skip ?_
            (try simp only [Exit.then, Exit.inBlock, ↓reduceIte, Nat.reduceEqDiff])
            refine hK94 _ _ ?_
            refine wp_seq_k (fun K97 hK97 => ?_)
            refine wp_block ?_
            refine wp_seq_k (fun K98 hK98 => ?_)
            obtain ⟨ad101, hat, he⟩ := rd_at ((h59.up hu82.out).rd) A100.out
            have he102 := Aside0.mk he
            have hat104 := Aside0.mk hat
            clear he hat
            obtain ⟨ad107, hat, he⟩ := rd_at ((h58.up hu82.out).rd) A106.out
            have he108 := Aside0.mk he
            have hat110 := Aside0.mk hat
            clear he hat
            obtain ⟨ad113, hat, he⟩ := rd_at h85.rd A112.out
            have he114 := Aside0.mk he
            have hat116 := Aside0.mk hat
            clear he hat
            refine' wp_region_up 13 [Slot.det _, Slot.det _, Slot.det _, Slot.det _, Slot.det (.pointer (some ad101)), Slot.det _, Slot.det _, Slot.det _, Slot.det _, Slot.det (.pointer (some ad107)), Slot.det _, Slot.det _, Slot.det (.pointer (some ad113))] (by kernel_rfl) (by kernel_rfl) ?main
            case main =>
             simp only [List.take_succ_cons, List.take_zero]
             refine wpK_ops rfl (fun w1 hu => ?_) ?_
             · clear hu
               go_simp
               first | done | rfl
             simp only [Act.put, nm1, nm2, nm3, i64_w]
             refine wpK_ops rfl (fun w1 hu => ?_) ?_
             · clear hu
               go_simp
               first | done | rfl
             simp only [Act.put, nm1, nm2, nm3, i64_w]
             refine wpK_ops rfl (fun w1 hu => ?_) ?_
             · clear hu
               go_simp
               first | done | rfl
             simp only [Act.put, nm1, nm2, nm3, i64_w]
             refine wpK_ops rfl (fun w1 hu => ?_) ?_
             · clear hu
               go_simp
               first | done | rfl
             simp only [Act.put, nm1, nm2, nm3, i64_w]
             refine wpK_ops rfl (fun w1 hu => ?_) ?_
             · exact quiet_index eI (T := 2) rfl (by kernel_rfl) (by kernel_rfl) rfl rfl rfl hat104.out A100.out
             simp only [Act.put, nm1, nm2, nm3, i64_w]
             refine wpK_ops rfl (fun w1 hu => ?_) ?_
             · have cl0 := he102.out 0 _ rfl
               rw [addr_add0] at cl0
               replace cl0 := (((Up.refl _).drew.trans hu)).kept cl0
               go_simp
               first | done | rfl
             simp only [Act.put, nm1, nm2, nm3, i64_w]
             refine wpK_ops rfl (fun w1 hu => ?_) ?_
             · clear hu
               go_simp
               first | done | rfl
             simp only [Act.put, nm1, nm2, nm3, i64_w]
             refine wpK_ops rfl (fun w1 hu => ?_) ?_
             · clear hu
               go_simp
               first | done | rfl
             simp only [Act.put, nm1, nm2, nm3, i64_w]
             refine wpK_ops rfl (fun w1 hu => ?_) ?_
             · clear hu
               go_simp
               first | done | rfl
             simp only [Act.put, nm1, nm2, nm3, i64_w]
             refine wpK_ops rfl (fun w1 hu => ?_) ?_
             · exact quiet_index eI (T := 2) rfl (by kernel_rfl) (by kernel_rfl) rfl rfl rfl hat110.out A106.out
             simp only [Act.put, nm1, nm2, nm3, i64_w]
             refine wpK_ops rfl (fun w1 hu => ?_) ?_
             · have cl0 := he108.out 0 _ rfl
               rw [addr_add0] at cl0
               replace cl0 := (((Up.refl _).drew.trans hu)).kept cl0
               go_simp
               first | done | rfl
             simp only [Act.put, nm1, nm2, nm3, i64_w]
             refine wpK_ops rfl (fun w1 hu => ?_) ?_
             · clear hu
               go_simp
               first | done | rfl
             simp only [Act.put, nm1, nm2, nm3, i64_w]
             refine wpK_ops rfl (fun w1 hu => ?_) ?_
             · exact quiet_index eI (T := 2) rfl (by kernel_rfl) (by kernel_rfl) rfl hl86.out rfl hat116.out A112.out
             simp only [Act.put, nm1, nm2, nm3, i64_w]
             refine wpK_nil ?_
             intro w117 hu hap
             simp only [List.drop_succ_cons, List.drop_zero]
             replace hu := (Up.refl _).drew.trans hu
             clear hap
             have hu118 := Aside0.mk hu
             clear hu
             have hO0 := Aside0.mk (h85.up hu118.out)
             have lb123 := Aside0.mk hO0.out.lt
             refine step_put eI (T := 2) (u := .int .i64 (wrap64 ((wrap64 (2 * t99)) - t105))) (old := t111) (new := wrap64 ((wrap64 (2 * t99)) - t105)) 0 rfl rfl rfl hat116.out (addr_add0 _).symm rfl rfl (by kernel_rfl) (by simp [Value.cells, Value.oneCell']) (Nat.le_of_ble_eq_true rfl) rfl hO0.out A112.out ?_
             intro w119 h121 hg
             have hg122 := Aside0.mk hg
             clear hO0 hg
             try simp only [Act.put, nm1, nm2, nm3, i64_w]
             have hl124 : Aside0 ((repl ((wrap64 (a1 + 2)).toNat) (0 : Int)).length = (x80.set (x79).toNat (wrap64 ((wrap64 (2 * t99)) - t105))).length) := Aside0.mk (hl86.out.trans (List.length_set ..).symm)
             refine wpList_nil ?_
             (try simp only [Exit.then, Exit.inBlock, ↓reduceIte, Nat.reduceEqDiff])
             refine hK98 _ _ ?_
             refine wp_seq_k (fun K125 hK125 => ?_)
             refine wp_seq_k (fun K126 hK126 => ?_)
             refine wp_region_lit ?_
             refine wpList_plain rfl (fun Ko hKo => ?_)
             go_simp
             refine hKo _ _ ?_
             clear hKo Ko
             try simp only [Act.put, nm1, nm2, nm3, i64_w]
             refine wpList_plain rfl (fun Ko hKo => ?_)
             go_simp
             refine hKo _ _ ?_
             clear hKo Ko
             try simp only [Act.put, nm1, nm2, nm3, i64_w]
             refine wpList_nil ?_
             (try simp only [Exit.then, Exit.inBlock, ↓reduceIte, Nat.reduceEqDiff])
             refine hK126 _ _ ?_
             refine wp_cond_false rfl ?_
             refine wp_skip ?_
             (try simp only [Exit.then, Exit.inBlock, ↓reduceIte, Nat.reduceEqDiff])
             refine hK125 _ _ ?_
             refine wp_seq_k (fun K215 hK215 => ?_)
             refine wp_seq_k (fun K216 hK216 => ?_)
             refine wp_region_lit ?_
             refine wpList_plain rfl (fun Ko hKo => ?_)
             go_simp
             refine hKo _ _ ?_
             clear hKo Ko
             try simp only [Act.put, nm1, nm2, nm3, i64_w]
             refine wpList_plain rfl (fun Ko hKo => ?_)
             go_simp
             refine hKo _ _ ?_
             clear hKo Ko
             try simp only [Act.put, nm1, nm2, nm3, i64_w]
             refine wpList_nil ?_
             (try simp only [Exit.then, Exit.inBlock, ↓reduceIte, Nat.reduceEqDiff])
             refine hK216 _ _ ?_
             refine wp_cond_false rfl ?_
             refine wp_skip ?_
             (try simp only [Exit.then, Exit.inBlock, ↓reduceIte, Nat.reduceEqDiff])
             refine hK215 _ _ ?_
             refine wp_region_lit ?_
             refine wpList_plain rfl (fun Ko hKo => ?_)
             go_simp
             refine hKo _ _ ?_
             clear hKo Ko
             try simp only [Act.put, nm1, nm2, nm3, i64_w]
             refine wpList_plain rfl (fun Ko hKo => ?_)
             go_simp
             refine hKo _ _ ?_
             clear hKo Ko
             try simp only [Act.put, nm1, nm2, nm3, i64_w]
             refine wpList_plain rfl (fun Ko hKo => ?_)
             go_simp
             refine hKo _ _ ?_
             clear hKo Ko
             try simp only [Act.put, nm1, nm2, nm3, i64_w]
             refine wpList_plain rfl (fun Ko hKo => ?_)
             go_simp
             refine hKo _ _ ?_
             clear hKo Ko
             try simp only [Act.put, nm1, nm2, nm3, i64_w]
             refine step_index eI (T := 2) (wanted_none rfl) rfl (by kernel_rfl) (by kernel_rfl) rfl hl124.out rfl h121.rd A256.out ?_
             intro ad257 hat he
             have he258 := Aside0.mk he
             have hat259 := Aside0.mk hat
             clear he hat
             simp only [Act.put, nm1, nm2, nm3, i64_w]
             have cl0 := he258.out 0 _ rfl
             rw [addr_add0] at cl0
             refine wpList_plain rfl (fun Ko hKo => ?_)
             go_simp
             refine hKo _ _ ?_
             clear hKo Ko
             clear cl0
             try simp only [Act.put, nm1, nm2, nm3, i64_w]
             refine wpList_plain rfl (fun Ko hKo => ?_)
             go_simp
             refine hKo _ _ ?_
             clear hKo Ko
             try simp only [Act.put, nm1, nm2, nm3, i64_w]
             refine step_call (wanted_none rfl) (by first | (go_simp; done) | (go_simp; rfl)) (spec_l01Mod.calls K t255 a0 t260 w119  A261.out) ?_
             rintro e w262 ⟨rfl, hu⟩
             have hu263 := Aside0.mk hu
             clear hu
             refine ⟨_, rfl, ?_⟩
             simp only [Act.put, nm1, nm2, nm3, i64_w]
             refine step_index eI (T := 2) (wanted_none rfl) rfl (by kernel_rfl) (by kernel_rfl) rfl hl124.out rfl (h121.up hu263.out).rd A265.out ?_
             intro ad266 hat he
             have he267 := Aside0.mk he
             have hat268 := Aside0.mk hat
             clear he hat
             simp only [Act.put, nm1, nm2, nm3, i64_w]
             have hO0 := Aside0.mk (h121.up hu263.out)
             have lb273 := Aside0.mk hO0.out.lt
             refine step_put eI (T := 2) (u := .int .i64 t260) (old := t264) (new := t260) 0 rfl rfl rfl hat268.out (addr_add0 _).symm rfl rfl (by kernel_rfl) (by simp [Value.cells, Value.oneCell']) (Nat.le_of_ble_eq_true rfl) rfl hO0.out A265.out ?_
             intro w269 h271 hg
             have hg272 := Aside0.mk hg
             clear hO0 hg
             try simp only [Act.put, nm1, nm2, nm3, i64_w]
             have hl274 : Aside0 ((repl ((wrap64 (a1 + 2)).toNat) (0 : Int)).length = ((x80.set (x79).toNat (wrap64 ((wrap64 (2 * t99)) - t105))).set (x79).toNat t260).length) := Aside0.mk (hl124.out.trans (List.length_set ..).symm)
             refine wpList_nil ?_
             (try simp only [Exit.then, Exit.inBlock, ↓reduceIte, Nat.reduceEqDiff])
             refine hK97 _ _ ?_
             refine wp_region_lit ?_
             refine wpList_plain rfl (fun Ko hKo => ?_)
             go_simp
             refine hKo _ _ ?_
             clear hKo Ko
             try simp only [Act.put, nm1, nm2, nm3, i64_w]
             refine wpList_plain rfl (fun Ko hKo => ?_)
             go_simp
             refine hKo _ _ ?_
             clear hKo Ko
             try simp only [Act.put, nm1, nm2, nm3, i64_w]
             refine wpList_plain rfl (fun Ko hKo => ?_)
             go_simp
             refine hKo _ _ ?_
             clear hKo Ko
             try simp only [Act.put, nm1, nm2, nm3, i64_w]
             refine wpList_nil ?_
             (try simp only [Exit.then, Exit.inBlock, ↓reduceIte, Nat.reduceEqDiff])
             refine hK93 _ _ ?_
             go_roundg k89
             case measure => exact Nat.lt_succ_self _
             case rel => exact ⟨wrap64 (x79 + 1), ((x80.set (x79).toNat (wrap64 ((wrap64 (2 * t99)) - t105))).set (x79).toNat t260), (by first | rfl | simp), HL275, ⟨by have := hk62.out; have := hk90.out; omega⟩, ⟨((((hu82.out.trans hu118.out).grow hg122.out (fun k hk => Nat.le_trans (Nat.le_refl _) ((fun k hk => (lb123.out k hk).1) k hk))).trans hu263.out).grow hg272.out (fun k hk => Nat.le_trans (Nat.le_refl _) ((fun k hk => (lb273.out k hk).1) k hk)))⟩, ⟨(Nat.le_trans ((Nat.le_trans ((Nat.le_trans ((Nat.le_trans ((Nat.le_trans (Nat.le_refl _) hz83.out)) hu118.out.size)) hg122.out.size)) hu263.out.size)) hg272.out.size)⟩, h271, ⟨hl274.out⟩, ⟨(fun k l hk hl => hn87.out k l (blk_eq.symm.trans hk) hl)⟩, ⟨(fun k l hk hl => hn88.out k l (blk_eq.symm.trans hk) hl)⟩⟩
         ·
          rw [if_neg c96] at H
          replace c96 := Bool.eq_false_iff.mpr c96
          have HL277 := Aside0.mk H
          clear H
          refine wp_seq_k (fun K94 hK94 => ?_)
          refine wp_seq_k (fun K95 hK95 => ?_)
          refine wp_region_lit ?_
          refine wpList_plain rfl (fun Ko hKo => ?_)
          go_simp
          refine hKo _ _ ?_
          clear hKo Ko
          try simp only [Act.put, nm1, nm2, nm3, i64_w]
          refine wpList_plain rfl (fun Ko hKo => ?_)
          go_simp
          refine hKo _ _ ?_
          clear hKo Ko
          try simp only [Act.put, nm1, nm2, nm3, i64_w]
          refine wpList_plain rfl (fun Ko hKo => ?_)
          go_simp
          refine hKo _ _ ?_
          clear hKo Ko
          try simp only [Act.put, nm1, nm2, nm3, i64_w]
          refine wpList_nil ?_
          (try simp only [Exit.then, Exit.inBlock, ↓reduceIte, Nat.reduceEqDiff])
          refine hK95 _ _ ?_
          refine wp_cond_false rfl ?_
          refine wp_exit ?_
          (try simp only [Exit.then, Exit.inBlock, ↓reduceIte, Nat.reduceEqDiff])
          refine hK77 _ _ ?_
          refine wp_seq_k (fun K276 hK276 => ?_)
          refine wp_region_lit ?_
          refine wpList_plain rfl (fun Ko hKo => ?_)
          go_simp
          refine hKo _ _ ?_
          clear hKo Ko
          try simp only [Act.put, nm1, nm2, nm3, i64_w]
          refine wpList_plain rfl (fun Ko hKo => ?_)
          go_simp
          refine hKo _ _ ?_
          clear hKo Ko
          try simp only [Act.put, nm1, nm2, nm3, i64_w]
          refine wpList_nil ?_
          (try simp only [Exit.then, Exit.inBlock, ↓reduceIte, Nat.reduceEqDiff])
          refine hK276 _ _ ?_
          refine wp_region_lit ?_
          refine wpList_plain rfl (fun Ko hKo => ?_)
          go_simp
          refine hKo _ _ ?_
          clear hKo Ko
          try simp only [Act.put, nm1, nm2, nm3, i64_w]
          refine wpList_plain rfl (fun Ko hKo => ?_)
          go_simp
          refine hKo _ _ ?_
          clear hKo Ko
          try simp only [Act.put, nm1, nm2, nm3, i64_w]
          refine wpList_nil ?_
          (try simp only [Exit.then, Exit.inBlock, ↓reduceIte, Nat.reduceEqDiff])
          refine hK69 _ _ ?_
          refine wp_region_lit ?_
          refine wpList_plain rfl (fun Ko hKo => ?_)
          go_simp
          refine hKo _ _ ?_
          clear hKo Ko
          try simp only [Act.put, nm1, nm2, nm3, i64_w]
          refine wpList_plain rfl (fun Ko hKo => ?_)
          go_simp
          refine hKo _ _ ?_
          clear hKo Ko
          try simp only [Act.put, nm1, nm2, nm3, i64_w]
          refine wpList_plain rfl (fun Ko hKo => ?_)
          go_simp
          refine hKo _ _ ?_
          clear hKo Ko
          try simp only [Act.put, nm1, nm2, nm3, i64_w]
          refine wpList_nil ?_
          (try simp only [Exit.then, Exit.inBlock, ↓reduceIte, Nat.reduceEqDiff])
          refine hK65 _ _ ?_
          go_roundg k89
          case measure => have := hk62.out; have := hk90.out; omega
          case rel => exact ⟨wrap64 (x47 - 1), x51, P52, q53, x80, P71, q72, (by first | rfl | simp), (by first | rfl | simp), (congrArg (fun n_ => Value.slice _ n_ _) hl86.out), HL277, ⟨by have := hk62.out; have := hk90.out; omega⟩, ⟨(hu55.out.trans hu82.out)⟩, ⟨(Nat.le_trans ((Nat.le_trans ((Nat.le_trans (Nat.le_refl _) hz56.out)) hu76.out.size)) hz83.out)⟩, (h59.up hu82.out), (h85.lower ((Nat.le_trans ((Nat.le_trans (hu31.out.size) hg41.out.size)) hz56.out))), ⟨(fun k l hk hl => Ne.symm (hn88.out l k hl hk))⟩⟩
       ·
        rw [if_neg c68] at H
        replace c68 := Bool.eq_false_iff.mpr c68
        replace H := Option.bind_eq_some_iff.mp H
        obtain ⟨t279, A280, H⟩ := H
        replace A280 := Aside0.mk A280
        try dsimp only at H
        simp only [Option.some.injEq, Prod.mk.injEq] at H
        obtain ⟨rfl, rfl⟩ := H
        refine wp_seq_k (fun K66 hK66 => ?_)
        refine wp_seq_k (fun K67 hK67 => ?_)
        refine wp_region_lit ?_
        refine wpList_plain rfl (fun Ko hKo => ?_)
        go_simp
        refine hKo _ _ ?_
        clear hKo Ko
        try simp only [Act.put, nm1, nm2, nm3, i64_w]
        refine wpList_plain rfl (fun Ko hKo => ?_)
        go_simp
        refine hKo _ _ ?_
        clear hKo Ko
        try simp only [Act.put, nm1, nm2, nm3, i64_w]
        refine wpList_nil ?_
        (try simp only [Exit.then, Exit.inBlock, ↓reduceIte, Nat.reduceEqDiff])
        refine hK67 _ _ ?_
        refine wp_cond_false rfl ?_
        refine wp_exit ?_
        (try simp only [Exit.then, Exit.inBlock, ↓reduceIte, Nat.reduceEqDiff])
        refine hK45 _ _ ?_
        refine wp_seq_k (fun K278 hK278 => ?_)
        refine wp_region_lit ?_
        refine wpList_plain rfl (fun Ko hKo => ?_)
        go_simp
        refine hKo _ _ ?_
        clear hKo Ko
        try simp only [Act.put, nm1, nm2, nm3, i64_w]
        refine wpList_plain rfl (fun Ko hKo => ?_)
        go_simp
        refine hKo _ _ ?_
        clear hKo Ko
        try simp only [Act.put, nm1, nm2, nm3, i64_w]
        refine wpList_plain rfl (fun Ko hKo => ?_)
        go_simp
        refine hKo _ _ ?_
        clear hKo Ko
        try simp only [Act.put, nm1, nm2, nm3, i64_w]
        have hO0 := Aside0.mk h58
        refine step_cut_hi 1 (T := 2) (i := wrap64 (a1 + 1)) (xs := x48) (ys := t279) (wanted_none rfl) rfl (by kernel_rfl) (by kernel_rfl) rfl rfl hO0.out.cap A280.out ?_
        have h281 := hO0.out.cutHi A280.out
        clear hO0
        simp only [Act.put, nm1, nm2, nm3, i64_w]
        refine wpList_plain rfl (fun Ko hKo => ?_)
        go_simp
        refine hKo _ _ ?_
        clear hKo Ko
        try simp only [Act.put, nm1, nm2, nm3, i64_w]
        refine wpList_plain rfl (fun Ko hKo => ?_)
        go_simp
        refine hKo _ _ ?_
        clear hKo Ko
        try simp only [Act.put, nm1, nm2, nm3, i64_w]
        refine wpList_nil ?_
        (try simp only [Exit.then, Exit.inBlock, ↓reduceIte, Nat.reduceEqDiff])
        refine hK278 _ _ ?_
        refine wp_ret ?_
        (try simp only [Exit.then, Exit.inBlock, ↓reduceIte, Nat.reduceEqDiff])
        refine hQf _ _ _ ?_
        exact bodyPost_ret (v := .tuple #[.slice P49 t279.length q50, .int .i64 0]) (by first | rfl | (simp [results, Try.results30, go_sem]; done) | (simp [results, Try.results30, go_sem]; rfl)) rfl ⟨P49, q50, rfl, (h281.lower (hu6.out.size)), (hu6.out.trans hu55.out)⟩
    ·
     rw [if_neg c20] at H
     replace c20 := Bool.eq_false_iff.mpr c20
     exact absurd H (by simp)
   ·
    rw [if_neg c19] at H
    replace c19 := Bool.eq_false_iff.mpr c19
    exact absurd H (by simp)
 ·
  rw [if_neg c9] at H
  replace c9 := Bool.eq_false_iff.mpr c9
  have c9n : (t3 != 0) = true := by rw [bne, c9]; rfl
  have c9p : ¬ t3 = 0 := fun e => by simp [e] at c9
  simp only [Option.some.injEq, Prod.mk.injEq] at H
  obtain ⟨rfl, rfl⟩ := H
  go_enter Try.func30, Try.ntmps30
  refine wp_hide (fun Qf hQf => ?_)
  refine wp_seq_k (fun K1 hK1 => ?_)
  refine wp_region_lit ?_
  refine wpList_plain rfl (fun Ko hKo => ?_)
  go_simp
  refine hKo _ _ ?_
  clear hKo Ko
  try simp only [Act.put, nm1, nm2, nm3, i64_w]
  refine wpList_plain rfl (fun Ko hKo => ?_)
  go_simp
  refine hKo _ _ ?_
  clear hKo Ko
  try simp only [Act.put, nm1, nm2, nm3, i64_w]
  refine wpList_nil ?_
  (try simp only [Exit.then, Exit.inBlock, ↓reduceIte, Nat.reduceEqDiff])
  refine hK1 _ _ ?_
  refine wp_seq_k (fun K2 hK2 => ?_)
  refine wp_region_lit ?_
  refine wpList_plain rfl (fun Ko hKo => ?_)
  go_simp
  refine hKo _ _ ?_
  clear hKo Ko
  try simp only [Act.put, nm1, nm2, nm3, i64_w]
  refine wpList_plain rfl (fun Ko hKo => ?_)
  go_simp
  refine hKo _ _ ?_
  clear hKo Ko
  try simp only [Act.put, nm1, nm2, nm3, i64_w]
  refine step_call (wanted_none rfl) (by first | (go_simp; done) | (go_simp; rfl)) (spec_l05Code.calls K a0 a1 none 0 ([]) t3 w (Rd.nil) A4.out) ?_
  rintro e w5 ⟨rfl, hu⟩
  have hu6 := Aside0.mk hu
  clear hu
  refine ⟨_, rfl, ?_⟩
  simp only [Act.put, nm1, nm2, nm3, i64_w]
  refine wpList_plain rfl (fun Ko hKo => ?_)
  go_simp
  refine hKo _ _ ?_
  clear hKo Ko
  try simp only [Act.put, nm1, nm2, nm3, i64_w]
  refine wpList_nil ?_
  (try simp only [Exit.then, Exit.inBlock, ↓reduceIte, Nat.reduceEqDiff])
  refine hK2 _ _ ?_
  refine wp_seq_k (fun K7 hK7 => ?_)
  refine wp_seq_k (fun K8 hK8 => ?_)
  refine wp_region_lit ?_
  refine wpList_plain rfl (fun Ko hKo => ?_)
  go_simp
  refine hKo _ _ ?_
  clear hKo Ko
  try simp only [Act.put, nm1, nm2, nm3, i64_w]
  refine wpList_plain rfl (fun Ko hKo => ?_)
  go_simp
  refine hKo _ _ ?_
  clear hKo Ko
  try simp only [Act.put, nm1, nm2, nm3, i64_w]
  refine wpList_plain rfl (fun Ko hKo => ?_)
  go_simp
  refine hKo _ _ ?_
  clear hKo Ko
  try simp only [Act.put, nm1, nm2, nm3, i64_w]
  refine step_no rfl ?_
  simp only [Act.put, nm1, nm2, nm3, i64_w]
  refine step_no rfl ?_
  simp only [Act.put, nm1, nm2, nm3, i64_w]
  refine wpList_plain rfl (fun Ko hKo => ?_)
  go_simp
  refine hKo _ _ ?_
  clear hKo Ko
  try simp only [Act.put, nm1, nm2, nm3, i64_w]
  refine wpList_nil ?_
  (try simp only [Exit.then, Exit.inBlock, ↓reduceIte, Nat.reduceEqDiff])
  refine hK8 _ _ ?_
  refine wp_cond_false rfl ?_
  refine wp_skip ?_
  (try simp only [Exit.then, Exit.inBlock, ↓reduceIte, Nat.reduceEqDiff])
  refine hK7 _ _ ?_
  refine wp_seq_k (fun K282 hK282 => ?_)
  refine wp_seq_k (fun K283 hK283 => ?_)
  refine wp_region_lit ?_
  refine wpList_plain rfl (fun Ko hKo => ?_)
  go_simp
  refine hKo _ _ ?_
  clear hKo Ko
  try simp only [Act.put, nm1, nm2, nm3, i64_w]
  refine wpList_plain rfl (fun Ko hKo => ?_)
  go_simp
  refine hKo _ _ ?_
  clear hKo Ko
  try simp only [Act.put, nm1, nm2, nm3, i64_w]
  refine wpList_nil ?_
  (try simp only [Exit.then, Exit.inBlock, ↓reduceIte, Nat.reduceEqDiff])
  refine hK283 _ _ ?_
  refine wp_cond_true rfl ?_
  refine wp_seq_k (fun K284 hK284 => ?_)
  refine wp_region_lit ?_
  refine wpList_plain rfl (fun Ko hKo => ?_)
  go_simp
  refine hKo _ _ ?_
  clear hKo Ko
  try simp only [Act.put, nm1, nm2, nm3, i64_w]
  refine wpList_plain rfl (fun Ko hKo => ?_)
  go_simp
  refine hKo _ _ ?_
  clear hKo Ko
  try simp only [Act.put, nm1, nm2, nm3, i64_w]
  refine wpList_plain rfl (fun Ko hKo => ?_)
  go_simp
  refine hKo _ _ ?_
  clear hKo Ko
  try simp only [Act.put, nm1, nm2, nm3, i64_w]
  refine wpList_nil ?_
  (try simp only [Exit.then, Exit.inBlock, ↓reduceIte, Nat.reduceEqDiff])
  refine hK284 _ _ ?_
  refine wp_ret ?_
  have h286 : Own eI 2 w5 w5.heap.size (.slice none ([] : List (Int)).length 0) [] := Own.nil
  (try simp only [Exit.then, Exit.inBlock, ↓reduceIte, Nat.reduceEqDiff])
  refine hQf _ _ _ ?_
  exact bodyPost_ret (v := .tuple #[.slice none 0 0, .int .i64 t3]) (by first | rfl | (simp [results, Try.results30, go_sem]; done) | (simp [results, Try.results30, go_sem]; rfl)) rfl ⟨none, 0, rfl, (h286.lower (hu6.out.size)), hu6.out⟩

set_option maxHeartbeats 4000000 in
set_option maxRecDepth 100000 in
theorem impl_IsField.calls (K : Nat) (a0 : Int) (r0 : Bool) (w : World)  (h : impl_IsField.f K a0 = some (r0)) :
    Calls Try.prog 71 #[.int .i64 a0] w fun e w' => e = .returned (.bool r0) ∧ Up w w' := by
 have H : ((if (a0 == 3) = true then some true else (if (a0 == 5) = true then some true else (if (a0 == 7) = true then some true else (if (a0 == 11) = true then some true else (if (a0 == 13) = true then some true else (if (a0 == 17) = true then some true else (if (a0 == 19) = true then some true else (if (a0 == 23) = true then some true else (if (a0 == 29) = true then some true else (if (a0 == 31) = true then some true else some false)))))))))) : Option (Bool)) = some (r0) := h
 clear h
 by_cases c6 : (a0 == 3) = true
 ·
  rw [if_pos c6] at H
  have c6n : (a0 != 3) = false := by rw [bne, c6]; rfl
  obtain rfl := Option.some.inj H
  go_enter Try.func71, Try.ntmps71
  refine wp_hide (fun Qf hQf => ?_)
  refine wp_seq_k (fun K1 hK1 => ?_)
  refine wp_region_lit ?_
  refine wpList_plain rfl (fun Ko hKo => ?_)
  go_simp
  refine hKo _ _ ?_
  clear hKo Ko
  try simp only [Act.put, nm1, nm2, nm3, i64_w]
  refine wpList_nil ?_
  (try simp only [Exit.then, Exit.inBlock, ↓reduceIte, Nat.reduceEqDiff])
  refine hK1 _ _ ?_
  refine wp_seq_k (fun K2 hK2 => ?_)
  refine wp_seq_k (fun K3 hK3 => ?_)
  refine wp_region_lit ?_
  refine wpList_plain rfl (fun Ko hKo => ?_)
  go_simp
  refine hKo _ _ ?_
  clear hKo Ko
  try simp only [Act.put, nm1, nm2, nm3, i64_w]
  refine wpList_nil ?_
  (try simp only [Exit.then, Exit.inBlock, ↓reduceIte, Nat.reduceEqDiff])
  refine hK3 _ _ ?_
  refine wp_block ?_
  refine wp_seq_k (fun K4 hK4 => ?_)
  refine wp_seq_k (fun K5 hK5 => ?_)
  refine wp_region_lit ?_
  refine wpList_plain rfl (fun Ko hKo => ?_)
  go_simp
  refine hKo _ _ ?_
  clear hKo Ko
  try simp only [Act.put, nm1, nm2, nm3, i64_w]
  refine wpList_plain rfl (fun Ko hKo => ?_)
  go_simp
  refine hKo _ _ ?_
  clear hKo Ko
  try simp only [Act.put, nm1, nm2, nm3, i64_w]
  refine wpList_nil ?_
  (try simp only [Exit.then, Exit.inBlock, ↓reduceIte, Nat.reduceEqDiff])
  refine hK5 _ _ ?_
  refine wp_cond_true rfl ?_
  refine wp_skip ?_
  (try simp only [Exit.then, Exit.inBlock, ↓reduceIte, Nat.reduceEqDiff])
  refine hK4 _ _ ?_
  refine wp_cond_true rfl ?_
  refine wp_seq_k (fun K7 hK7 => ?_)
  refine wp_region_lit ?_
  refine wpList_plain rfl (fun Ko hKo => ?_)
  go_simp
  refine hKo _ _ ?_
  clear hKo Ko
  try simp only [Act.put, nm1, nm2, nm3, i64_w]
  refine wpList_nil ?_
  (try simp only [Exit.then, Exit.inBlock, ↓reduceIte, Nat.reduceEqDiff])
  refine hK7 _ _ ?_
  refine wp_ret ?_
  (try simp only [Exit.then, Exit.inBlock, ↓reduceIte, Nat.reduceEqDiff])
  refine hQf _ _ _ ?_
  exact bodyPost_ret (v := .bool true) (by first | rfl | (simp [results, Try.results71, go_sem]; done) | (simp [results, Try.results71, go_sem]; rfl)) rfl ⟨rfl, (Up.refl _)⟩
 ·
  rw [if_neg c6] at H
  replace c6 := Bool.eq_false_iff.mpr c6
  have c6n : (a0 != 3) = true := by rw [bne, c6]; rfl
  have c6p : ¬ a0 = 3 := fun e => by simp [e] at c6
  by_cases c9 : (a0 == 5) = true
  ·
   rw [if_pos c9] at H
   have c9n : (a0 != 5) = false := by rw [bne, c9]; rfl
   obtain rfl := Option.some.inj H
   go_enter Try.func71, Try.ntmps71
   refine wp_hide (fun Qf hQf => ?_)
   refine wp_seq_k (fun K1 hK1 => ?_)
   refine wp_region_lit ?_
   refine wpList_plain rfl (fun Ko hKo => ?_)
   go_simp
   refine hKo _ _ ?_
   clear hKo Ko
   try simp only [Act.put, nm1, nm2, nm3, i64_w]
   refine wpList_nil ?_
   (try simp only [Exit.then, Exit.inBlock, ↓reduceIte, Nat.reduceEqDiff])
   refine hK1 _ _ ?_
   refine wp_seq_k (fun K2 hK2 => ?_)
   refine wp_seq_k (fun K3 hK3 => ?_)
   refine wp_region_lit ?_
   refine wpList_plain rfl (fun Ko hKo => ?_)
   go_simp
   refine hKo _ _ ?_
   clear hKo Ko
   try simp only [Act.put, nm1, nm2, nm3, i64_w]
   refine wpList_nil ?_
   (try simp only [Exit.then, Exit.inBlock, ↓reduceIte, Nat.reduceEqDiff])
   refine hK3 _ _ ?_
   refine wp_block ?_
   refine wp_seq_k (fun K4 hK4 => ?_)
   refine wp_seq_k (fun K5 hK5 => ?_)
   refine wp_region_lit ?_
   refine wpList_plain rfl (fun Ko hKo => ?_)
   go_simp
   refine hKo _ _ ?_
   clear hKo Ko
   try simp only [Act.put, nm1, nm2, nm3, i64_w]
   refine wpList_plain rfl (fun Ko hKo => ?_)
   go_simp
   refine hKo _ _ ?_
   clear hKo Ko
   try simp only [Act.put, nm1, nm2, nm3, i64_w]
   refine wpList_nil ?_
   (try simp only [Exit.then, Exit.inBlock, ↓reduceIte, Nat.reduceEqDiff])
   refine hK5 _ _ ?_
   refine wp_cond_false rfl ?_
   refine wp_seq_k (fun K8 hK8 => ?_)
   refine wp_region_lit ?_
   refine wpList_plain rfl (fun Ko hKo => ?_)
   go_simp
   refine hKo _ _ ?_
   clear hKo Ko
   try simp only [Act.put, nm1, nm2, nm3, i64_w]
   refine wpList_plain rfl (fun Ko hKo => ?_)
   go_simp
   refine hKo _ _ ?_
   clear hKo Ko
   try simp only [Act.put, nm1, nm2, nm3, i64_w]
   refine wpList_nil ?_
   (try simp only [Exit.then, Exit.inBlock, ↓reduceIte, Nat.reduceEqDiff])
   refine hK8 _ _ ?_
   refine wp_cond_true rfl ?_
   refine wp_skip ?_
   (try simp only [Exit.then, Exit.inBlock, ↓reduceIte, Nat.reduceEqDiff])
   refine hK4 _ _ ?_
   refine wp_cond_true rfl ?_
   refine wp_seq_k (fun K10 hK10 => ?_)
   refine wp_region_lit ?_
   refine wpList_plain rfl (fun Ko hKo => ?_)
   go_simp
   refine hKo _ _ ?_
   clear hKo Ko
   try simp only [Act.put, nm1, nm2, nm3, i64_w]
   refine wpList_nil ?_
   (try simp only [Exit.then, Exit.inBlock, ↓reduceIte, Nat.reduceEqDiff])
   refine hK10 _ _ ?_
   refine wp_ret ?_
   (try simp only [Exit.then, Exit.inBlock, ↓reduceIte, Nat.reduceEqDiff])
   refine hQf _ _ _ ?_
   exact bodyPost_ret (v := .bool true) (by first | rfl | (simp [results, Try.results71, go_sem]; done) | (simp [results, Try.results71, go_sem]; rfl)) rfl ⟨rfl, (Up.refl _)⟩
  ·
   rw [if_neg c9] at H
   replace c9 := Bool.eq_false_iff.mpr c9
   have c9n : (a0 != 5) = true := by rw [bne, c9]; rfl
   have c9p : ¬ a0 = 5 := fun e => by simp [e] at c9
   by_cases c12 : (a0 == 7) = true
   ·
    rw [if_pos c12] at H
    have c12n : (a0 != 7) = false := by rw [bne, c12]; rfl
    obtain rfl := Option.some.inj H
    go_enter Try.func71, Try.ntmps71
    refine wp_hide (fun Qf hQf => ?_)
    refine wp_seq_k (fun K1 hK1 => ?_)
    refine wp_region_lit ?_
    refine wpList_plain rfl (fun Ko hKo => ?_)
    go_simp
    refine hKo _ _ ?_
    clear hKo Ko
    try simp only [Act.put, nm1, nm2, nm3, i64_w]
    refine wpList_nil ?_
    (try simp only [Exit.then, Exit.inBlock, ↓reduceIte, Nat.reduceEqDiff])
    refine hK1 _ _ ?_
    refine wp_seq_k (fun K2 hK2 => ?_)
    refine wp_seq_k (fun K3 hK3 => ?_)
    refine wp_region_lit ?_
    refine wpList_plain rfl (fun Ko hKo => ?_)
    go_simp
    refine hKo _ _ ?_
    clear hKo Ko
    try simp only [Act.put, nm1, nm2, nm3, i64_w]
    refine wpList_nil ?_
    (try simp only [Exit.then, Exit.inBlock, ↓reduceIte, Nat.reduceEqDiff])
    refine hK3 _ _ ?_
    refine wp_block ?_
    refine wp_seq_k (fun K4 hK4 => ?_)
    refine wp_seq_k (fun K5 hK5 => ?_)
    refine wp_region_lit ?_
    refine wpList_plain rfl (fun Ko hKo => ?_)
    go_simp
    refine hKo _ _ ?_
    clear hKo Ko
    try simp only [Act.put, nm1, nm2, nm3, i64_w]
    refine wpList_plain rfl (fun Ko hKo => ?_)
    go_simp
    refine hKo _ _ ?_
    clear hKo Ko
    try simp only [Act.put, nm1, nm2, nm3, i64_w]
    refine wpList_nil ?_
    (try simp only [Exit.then, Exit.inBlock, ↓reduceIte, Nat.reduceEqDiff])
    refine hK5 _ _ ?_
    refine wp_cond_false rfl ?_
    refine wp_seq_k (fun K8 hK8 => ?_)
    refine wp_region_lit ?_
    refine wpList_plain rfl (fun Ko hKo => ?_)
    go_simp
    refine hKo _ _ ?_
    clear hKo Ko
    try simp only [Act.put, nm1, nm2, nm3, i64_w]
    refine wpList_plain rfl (fun Ko hKo => ?_)
    go_simp
    refine hKo _ _ ?_
    clear hKo Ko
    try simp only [Act.put, nm1, nm2, nm3, i64_w]
    refine wpList_nil ?_
    (try simp only [Exit.then, Exit.inBlock, ↓reduceIte, Nat.reduceEqDiff])
    refine hK8 _ _ ?_
    refine wp_cond_false rfl ?_
    refine wp_seq_k (fun K11 hK11 => ?_)
    refine wp_region_lit ?_
    refine wpList_plain rfl (fun Ko hKo => ?_)
    go_simp
    refine hKo _ _ ?_
    clear hKo Ko
    try simp only [Act.put, nm1, nm2, nm3, i64_w]
    refine wpList_plain rfl (fun Ko hKo => ?_)
    go_simp
    refine hKo _ _ ?_
    clear hKo Ko
    try simp only [Act.put, nm1, nm2, nm3, i64_w]
    refine wpList_nil ?_
    (try simp only [Exit.then, Exit.inBlock, ↓reduceIte, Nat.reduceEqDiff])
    refine hK11 _ _ ?_
    refine wp_cond_true rfl ?_
    refine wp_skip ?_
    (try simp only [Exit.then, Exit.inBlock, ↓reduceIte, Nat.reduceEqDiff])
    refine hK4 _ _ ?_
    refine wp_cond_true rfl ?_
    refine wp_seq_k (fun K13 hK13 => ?_)
    refine wp_region_lit ?_
    refine wpList_plain rfl (fun Ko hKo => ?_)
    go_simp
    refine hKo _ _ ?_
    clear hKo Ko
    try simp only [Act.put, nm1, nm2, nm3, i64_w]
    refine wpList_nil ?_
    (try simp only [Exit.then, Exit.inBlock, ↓reduceIte, Nat.reduceEqDiff])
    refine hK13 _ _ ?_
    refine wp_ret ?_
    (try simp only [Exit.then, Exit.inBlock, ↓reduceIte, Nat.reduceEqDiff])
    refine hQf _ _ _ ?_
    exact bodyPost_ret (v := .bool true) (by first | rfl | (simp [results, Try.results71, go_sem]; done) | (simp [results, Try.results71, go_sem]; rfl)) rfl ⟨rfl, (Up.refl _)⟩
   ·
    rw [if_neg c12] at H
    replace c12 := Bool.eq_false_iff.mpr c12
    have c12n : (a0 != 7) = true := by rw [bne, c12]; rfl
    have c12p : ¬ a0 = 7 := fun e => by simp [e] at c12
    by_cases c15 : (a0 == 11) = true
    ·
     rw [if_pos c15] at H
     have c15n : (a0 != 11) = false := by rw [bne, c15]; rfl
     obtain rfl := Option.some.inj H
     go_enter Try.func71, Try.ntmps71
     refine wp_hide (fun Qf hQf => ?_)
     refine wp_seq_k (fun K1 hK1 => ?_)
     refine wp_region_lit ?_
     refine wpList_plain rfl (fun Ko hKo => ?_)
     go_simp
     refine hKo _ _ ?_
     clear hKo Ko
     try simp only [Act.put, nm1, nm2, nm3, i64_w]
     refine wpList_nil ?_
     (try simp only [Exit.then, Exit.inBlock, ↓reduceIte, Nat.reduceEqDiff])
     refine hK1 _ _ ?_
     refine wp_seq_k (fun K2 hK2 => ?_)
     refine wp_seq_k (fun K3 hK3 => ?_)
     refine wp_region_lit ?_
     refine wpList_plain rfl (fun Ko hKo => ?_)
     go_simp
     refine hKo _ _ ?_
     clear hKo Ko
     try simp only [Act.put, nm1, nm2, nm3, i64_w]
     refine wpList_nil ?_
     (try simp only [Exit.then, Exit.inBlock, ↓reduceIte, Nat.reduceEqDiff])
     refine hK3 _ _ ?_
     refine wp_block ?_
     refine wp_seq_k (fun K4 hK4 => ?_)
     refine wp_seq_k (fun K5 hK5 => ?_)
     refine wp_region_lit ?_
     refine wpList_plain rfl (fun Ko hKo => ?_)
     go_simp
     refine hKo _ _ ?_
     clear hKo Ko
     try simp only [Act.put, nm1, nm2, nm3, i64_w]
     refine wpList_plain rfl (fun Ko hKo => ?_)
     go_simp
     refine hKo _ _ ?_
     clear hKo Ko
     try simp only [Act.put, nm1, nm2, nm3, i64_w]
     refine wpList_nil ?_
     (try simp only [Exit.then, Exit.inBlock, ↓reduceIte, Nat.reduceEqDiff])
     refine hK5 _ _ ?_
     refine wp_cond_false rfl ?_
     refine wp_seq_k (fun K8 hK8 => ?_)
     refine wp_region_lit ?_
     refine wpList_plain rfl (fun Ko hKo => ?_)
     go_simp
     refine hKo _ _ ?_
     clear hKo Ko
     try simp only [Act.put, nm1, nm2, nm3, i64_w]
     refine wpList_plain rfl (fun Ko hKo => ?_)
     go_simp
     refine hKo _ _ ?_
     clear hKo Ko
     try simp only [Act.put, nm1, nm2, nm3, i64_w]
     refine wpList_nil ?_
     (try simp only [Exit.then, Exit.inBlock, ↓reduceIte, Nat.reduceEqDiff])
     refine hK8 _ _ ?_
     refine wp_cond_false rfl ?_
     refine wp_seq_k (fun K11 hK11 => ?_)
     refine wp_region_lit ?_
     refine wpList_plain rfl (fun Ko hKo => ?_)
     go_simp
     refine hKo _ _ ?_
     clear hKo Ko
     try simp only [Act.put, nm1, nm2, nm3, i64_w]
     refine wpList_plain rfl (fun Ko hKo => ?_)
     go_simp
     refine hKo _ _ ?_
     clear hKo Ko
     try simp only [Act.put, nm1, nm2, nm3, i64_w]
     refine wpList_nil ?_
     (try simp only [Exit.then, Exit.inBlock, ↓reduceIte, Nat.reduceEqDiff])
     refine hK11 _ _ ?_
     refine wp_cond_false rfl ?_
     refine wp_seq_k (fun K14 hK14 => ?_)
     refine wp_region_lit ?_
     refine wpList_plain rfl (fun Ko hKo => ?_)
     go_simp
     refine hKo _ _ ?_
     clear hKo Ko
     try simp only [Act.put, nm1, nm2, nm3, i64_w]
     refine wpList_plain rfl (fun Ko hKo => ?_)
     go_simp
     refine hKo _ _ ?_
     clear hKo Ko
     try simp only [Act.put, nm1, nm2, nm3, i64_w]
     refine wpList_nil ?_
     (try simp only [Exit.then, Exit.inBlock, ↓reduceIte, Nat.reduceEqDiff])
     refine hK14 _ _ ?_
     refine wp_cond_true rfl ?_
     refine wp_skip ?_
     (try simp only [Exit.then, Exit.inBlock, ↓reduceIte, Nat.reduceEqDiff])
     refine hK4 _ _ ?_
     refine wp_cond_true rfl ?_
     refine wp_seq_k (fun K16 hK16 => ?_)
     refine wp_region_lit ?_
     refine wpList_plain rfl (fun Ko hKo => ?_)
     go_simp
     refine hKo _ _ ?_
     clear hKo Ko
     try simp only [Act.put, nm1, nm2, nm3, i64_w]
     refine wpList_nil ?_
     (try simp only [Exit.then, Exit.inBlock, ↓reduceIte, Nat.reduceEqDiff])
     refine hK16 _ _ ?_
     refine wp_ret ?_
     (try simp only [Exit.then, Exit.inBlock, ↓reduceIte, Nat.reduceEqDiff])
     refine hQf _ _ _ ?_
     exact bodyPost_ret (v := .bool true) (by first | rfl | (simp [results, Try.results71, go_sem]; done) | (simp [results, Try.results71, go_sem]; rfl)) rfl ⟨rfl, (Up.refl _)⟩
    ·
     rw [if_neg c15] at H
     replace c15 := Bool.eq_false_iff.mpr c15
     have c15n : (a0 != 11) = true := by rw [bne, c15]; rfl
     have c15p : ¬ a0 = 11 := fun e => by simp [e] at c15
     by_cases c18 : (a0 == 13) = true
     ·
      rw [if_pos c18] at H
      have c18n : (a0 != 13) = false := by rw [bne, c18]; rfl
      obtain rfl := Option.some.inj H
      go_enter Try.func71, Try.ntmps71
      refine wp_hide (fun Qf hQf => ?_)
      refine wp_seq_k (fun K1 hK1 => ?_)
      refine wp_region_lit ?_
      refine wpList_plain rfl (fun Ko hKo => ?_)
      go_simp
      refine hKo _ _ ?_
      clear hKo Ko
      try simp only [Act.put, nm1, nm2, nm3, i64_w]
      refine wpList_nil ?_
      (try simp only [Exit.then, Exit.inBlock, ↓reduceIte, Nat.reduceEqDiff])
      refine hK1 _ _ ?_
      refine wp_seq_k (fun K2 hK2 => ?_)
      refine wp_seq_k (fun K3 hK3 => ?_)
      refine wp_region_lit ?_
      refine wpList_plain rfl (fun Ko hKo => ?_)
      go_simp
      refine hKo _ _ ?_
      clear hKo Ko
      try simp only [Act.put, nm1, nm2, nm3, i64_w]
      refine wpList_nil ?_
      (try simp only [Exit.then, Exit.inBlock, ↓reduceIte, Nat.reduceEqDiff])
      refine hK3 _ _ ?_
      refine wp_block ?_
      refine wp_seq_k (fun K4 hK4 => ?_)
      refine wp_seq_k (fun K5 hK5 => ?_)
      refine wp_region_lit ?_
      refine wpList_plain rfl (fun Ko hKo => ?_)
      go_simp
      refine hKo _ _ ?_
      clear hKo Ko
      try simp only [Act.put, nm1, nm2, nm3, i64_w]
      refine wpList_plain rfl (fun Ko hKo => ?_)
      go_simp
      refine hKo _ _ ?_
      clear hKo Ko
      try simp only [Act.put, nm1, nm2, nm3, i64_w]
      refine wpList_nil ?_
      (try simp only [Exit.then, Exit.inBlock, ↓reduceIte, Nat.reduceEqDiff])
      refine hK5 _ _ ?_
      refine wp_cond_false rfl ?_
      refine wp_seq_k (fun K8 hK8 => ?_)
      refine wp_region_lit ?_
      refine wpList_plain rfl (fun Ko hKo => ?_)
      go_simp
      refine hKo _ _ ?_
      clear hKo Ko
      try simp only [Act.put, nm1, nm2, nm3, i64_w]
      refine wpList_plain rfl (fun Ko hKo => ?_)
      go_simp
      refine hKo _ _ ?_
      clear hKo Ko
      try simp only [Act.put, nm1, nm2, nm3, i64_w]
      refine wpList_nil ?_
      (try simp only [Exit.then, Exit.inBlock, ↓reduceIte, Nat.reduceEqDiff])
      refine hK8 _ _ ?_
      refine wp_cond_false rfl ?_
      refine wp_seq_k (fun K11 hK11 => ?_)
      refine wp_region_lit ?_
      refine wpList_plain rfl (fun Ko hKo => ?_)
      go_simp
      refine hKo _ _ ?_
      clear hKo Ko
      try simp only [Act.put, nm1, nm2, nm3, i64_w]
      refine wpList_plain rfl (fun Ko hKo => ?_)
      go_simp
      refine hKo _ _ ?_
      clear hKo Ko
      try simp only [Act.put, nm1, nm2, nm3, i64_w]
      refine wpList_nil ?_
      (try simp only [Exit.then, Exit.inBlock, ↓reduceIte, Nat.reduceEqDiff])
      refine hK11 _ _ ?_
      refine wp_cond_false rfl ?_
      refine wp_seq_k (fun K14 hK14 => ?_)
      refine wp_region_lit ?_
      refine wpList_plain rfl (fun Ko hKo => ?_)
      go_simp
      refine hKo _ _ ?_
      clear hKo Ko
      try simp only [Act.put, nm1, nm2, nm3, i64_w]
      refine wpList_plain rfl (fun Ko hKo => ?_)
      go_simp
      refine hKo _ _ ?_
      clear hKo Ko
      try simp only [Act.put, nm1, nm2, nm3, i64_w]
      refine wpList_nil ?_
      (try simp only [Exit.then, Exit.inBlock, ↓reduceIte, Nat.reduceEqDiff])
      refine hK14 _ _ ?_
      refine wp_cond_false rfl ?_
      refine wp_seq_k (fun K17 hK17 => ?_)
      refine wp_region_lit ?_
      refine wpList_plain rfl (fun Ko hKo => ?_)
      go_simp
      refine hKo _ _ ?_
      clear hKo Ko
      try simp only [Act.put, nm1, nm2, nm3, i64_w]
      refine wpList_plain rfl (fun Ko hKo => ?_)
      go_simp
      refine hKo _ _ ?_
      clear hKo Ko
      try simp only [Act.put, nm1, nm2, nm3, i64_w]
      refine wpList_nil ?_
      (try simp only [Exit.then, Exit.inBlock, ↓reduceIte, Nat.reduceEqDiff])
      refine hK17 _ _ ?_
      refine wp_cond_true rfl ?_
      refine wp_skip ?_
      (try simp only [Exit.then, Exit.inBlock, ↓reduceIte, Nat.reduceEqDiff])
      refine hK4 _ _ ?_
      refine wp_cond_true rfl ?_
      refine wp_seq_k (fun K19 hK19 => ?_)
      refine wp_region_lit ?_
      refine wpList_plain rfl (fun Ko hKo => ?_)
      go_simp
      refine hKo _ _ ?_
      clear hKo Ko
      try simp only [Act.put, nm1, nm2, nm3, i64_w]
      refine wpList_nil ?_
      (try simp only [Exit.then, Exit.inBlock, ↓reduceIte, Nat.reduceEqDiff])
      refine hK19 _ _ ?_
      refine wp_ret ?_
      (try simp only [Exit.then, Exit.inBlock, ↓reduceIte, Nat.reduceEqDiff])
      refine hQf _ _ _ ?_
      exact bodyPost_ret (v := .bool true) (by first | rfl | (simp [results, Try.results71, go_sem]; done) | (simp [results, Try.results71, go_sem]; rfl)) rfl ⟨rfl, (Up.refl _)⟩
     ·
      rw [if_neg c18] at H
      replace c18 := Bool.eq_false_iff.mpr c18
      have c18n : (a0 != 13) = true := by rw [bne, c18]; rfl
      have c18p : ¬ a0 = 13 := fun e => by simp [e] at c18
      by_cases c21 : (a0 == 17) = true
      ·
       rw [if_pos c21] at H
       have c21n : (a0 != 17) = false := by rw [bne, c21]; rfl
       obtain rfl := Option.some.inj H
       go_enter Try.func71, Try.ntmps71
       refine wp_hide (fun Qf hQf => ?_)
       refine wp_seq_k (fun K1 hK1 => ?_)
       refine wp_region_lit ?_
       refine wpList_plain rfl (fun Ko hKo => ?_)
       go_simp
       refine hKo _ _ ?_
       clear hKo Ko
       try simp only [Act.put, nm1, nm2, nm3, i64_w]
       refine wpList_nil ?_
       (try simp only [Exit.then, Exit.inBlock, ↓reduceIte, Nat.reduceEqDiff])
       refine hK1 _ _ ?_
       refine wp_seq_k (fun K2 hK2 => ?_)
       refine wp_seq_k (fun K3 hK3 => ?_)
       refine wp_region_lit ?_
       refine wpList_plain rfl (fun Ko hKo => ?_)
       go_simp
       refine hKo _ _ ?_
       clear hKo Ko
       try simp only [Act.put, nm1, nm2, nm3, i64_w]
       refine wpList_nil ?_
       (try simp only [Exit.then, Exit.inBlock, ↓reduceIte, Nat.reduceEqDiff])
       refine hK3 _ _ ?_
       refine wp_block ?_
       refine wp_seq_k (fun K4 hK4 => ?_)
       refine wp_seq_k (fun K5 hK5 => ?_)
       refine wp_region_lit ?_
       refine wpList_plain rfl (fun Ko hKo => ?_)
       go_simp
       refine hKo _ _ ?_
       clear hKo Ko
       try simp only [Act.put, nm1, nm2, nm3, i64_w]
       refine wpList_plain rfl (fun Ko hKo => ?_)
       go_simp
       refine hKo _ _ ?_
       clear hKo Ko
       try simp only [Act.put, nm1, nm2, nm3, i64_w]
       refine wpList_nil ?_
       (try simp only [Exit.then, Exit.inBlock, ↓reduceIte, Nat.reduceEqDiff])
       refine hK5 _ _ ?_
       refine wp_cond_false rfl ?_
       refine wp_seq_k (fun K8 hK8 => ?_)
       refine wp_region_lit ?_
       refine wpList_plain rfl (fun Ko hKo => ?_)
       go_simp
       refine hKo _ _ ?_
       clear hKo Ko
       try simp only [Act.put, nm1, nm2, nm3, i64_w]
       refine wpList_plain rfl (fun Ko hKo => ?_)
       go_simp
       refine hKo _ _ ?_
       clear hKo Ko
       try simp only [Act.put, nm1, nm2, nm3, i64_w]
       refine wpList_nil ?_
       (try simp only [Exit.then, Exit.inBlock, ↓reduceIte, Nat.reduceEqDiff])
       refine hK8 _ _ ?_
       refine wp_cond_false rfl ?_
       refine wp_seq_k (fun K11 hK11 => ?_)
       refine wp_region_lit ?_
       refine wpList_plain rfl (fun Ko hKo => ?_)
       go_simp
       refine hKo _ _ ?_
       clear hKo Ko
       try simp only [Act.put, nm1, nm2, nm3, i64_w]
       refine wpList_plain rfl (fun Ko hKo => ?_)
       go_simp
       refine hKo _ _ ?_
       clear hKo Ko
       try simp only [Act.put, nm1, nm2, nm3, i64_w]
       refine wpList_nil ?_
       (try simp only [Exit.then, Exit.inBlock, ↓reduceIte, Nat.reduceEqDiff])
       refine hK11 _ _ ?_
       refine wp_cond_false rfl ?_
       refine wp_seq_k (fun K14 hK14 => ?_)
       refine wp_region_lit ?_
       refine wpList_plain rfl (fun Ko hKo => ?_)
       go_simp
       refine hKo _ _ ?_
       clear hKo Ko
       try simp only [Act.put, nm1, nm2, nm3, i64_w]
       refine wpList_plain rfl (fun Ko hKo => ?_)
       go_simp
       refine hKo _ _ ?_
       clear hKo Ko
       try simp only [Act.put, nm1, nm2, nm3, i64_w]
       refine wpList_nil ?_
       (try simp only [Exit.then, Exit.inBlock, ↓reduceIte, Nat.reduceEqDiff])
       refine hK14 _ _ ?_
       refine wp_cond_false rfl ?_
       refine wp_seq_k (fun K17 hK17 => ?_)
       refine wp_region_lit ?_
       refine wpList_plain rfl (fun Ko hKo => ?_)
       go_simp
       refine hKo _ _ ?_
       clear hKo Ko
       try simp only [Act.put, nm1, nm2, nm3, i64_w]
       refine wpList_plain rfl (fun Ko hKo => ?_)
       go_simp
       refine hKo _ _ ?_
       clear hKo Ko
       try simp only [Act.put, nm1, nm2, nm3, i64_w]
       refine wpList_nil ?_
       (try simp only [Exit.then, Exit.inBlock, ↓reduceIte, Nat.reduceEqDiff])
       refine hK17 _ _ ?_
       refine wp_cond_false rfl ?_
       refine wp_seq_k (fun K20 hK20 => ?_)
       refine wp_region_lit ?_
       refine wpList_plain rfl (fun Ko hKo => ?_)
       go_simp
       refine hKo _ _ ?_
       clear hKo Ko
       try simp only [Act.put, nm1, nm2, nm3, i64_w]
       refine wpList_plain rfl (fun Ko hKo => ?_)
       go_simp
       refine hKo _ _ ?_
       clear hKo Ko
       try simp only [Act.put, nm1, nm2, nm3, i64_w]
       refine wpList_nil ?_
       (try simp only [Exit.then, Exit.inBlock, ↓reduceIte, Nat.reduceEqDiff])
       refine hK20 _ _ ?_
       refine wp_cond_true rfl ?_
       refine wp_skip ?_
       (try simp only [Exit.then, Exit.inBlock, ↓reduceIte, Nat.reduceEqDiff])
       refine hK4 _ _ ?_
       refine wp_cond_true rfl ?_
       refine wp_seq_k (fun K22 hK22 => ?_)
       refine wp_region_lit ?_
       refine wpList_plain rfl (fun Ko hKo => ?_)
       go_simp
       refine hKo _ _ ?_
       clear hKo Ko
       try simp only [Act.put, nm1, nm2, nm3, i64_w]
       refine wpList_nil ?_
       (try simp only [Exit.then, Exit.inBlock, ↓reduceIte, Nat.reduceEqDiff])
       refine hK22 _ _ ?_
       refine wp_ret ?_
       (try simp only [Exit.then, Exit.inBlock, ↓reduceIte, Nat.reduceEqDiff])
       refine hQf _ _ _ ?_
       exact bodyPost_ret (v := .bool true) (by first | rfl | (simp [results, Try.results71, go_sem]; done) | (simp [results, Try.results71, go_sem]; rfl)) rfl ⟨rfl, (Up.refl _)⟩
      ·
       rw [if_neg c21] at H
       replace c21 := Bool.eq_false_iff.mpr c21
       have c21n : (a0 != 17) = true := by rw [bne, c21]; rfl
       have c21p : ¬ a0 = 17 := fun e => by simp [e] at c21
       by_cases c24 : (a0 == 19) = true
       ·
        rw [if_pos c24] at H
        have c24n : (a0 != 19) = false := by rw [bne, c24]; rfl
        obtain rfl := Option.some.inj H
        go_enter Try.func71, Try.ntmps71
        refine wp_hide (fun Qf hQf => ?_)
        refine wp_seq_k (fun K1 hK1 => ?_)
        refine wp_region_lit ?_
        refine wpList_plain rfl (fun Ko hKo => ?_)
        go_simp
        refine hKo _ _ ?_
        clear hKo Ko
        try simp only [Act.put, nm1, nm2, nm3, i64_w]
        refine wpList_nil ?_
        (try simp only [Exit.then, Exit.inBlock, ↓reduceIte, Nat.reduceEqDiff])
        refine hK1 _ _ ?_
        refine wp_seq_k (fun K2 hK2 => ?_)
        refine wp_seq_k (fun K3 hK3 => ?_)
        refine wp_region_lit ?_
        refine wpList_plain rfl (fun Ko hKo => ?_)
        go_simp
        refine hKo _ _ ?_
        clear hKo Ko
        try simp only [Act.put, nm1, nm2, nm3, i64_w]
        refine wpList_nil ?_
        (try simp only [Exit.then, Exit.inBlock, ↓reduceIte, Nat.reduceEqDiff])
        refine hK3 _ _ ?_
        refine wp_block ?_
        refine wp_seq_k (fun K4 hK4 => ?_)
        refine wp_seq_k (fun K5 hK5 => ?_)
        refine wp_region_lit ?_
        refine wpList_plain rfl (fun Ko hKo => ?_)
        go_simp
        refine hKo _ _ ?_
        clear hKo Ko
        try simp only [Act.put, nm1, nm2, nm3, i64_w]
        refine wpList_plain rfl (fun Ko hKo => ?_)
        go_simp
        refine hKo _ _ ?_
        clear hKo Ko
        try simp only [Act.put, nm1, nm2, nm3, i64_w]
        refine wpList_nil ?_
        (try simp only [Exit.then, Exit.inBlock, ↓reduceIte, Nat.reduceEqDiff])
        refine hK5 _ _ ?_
        refine wp_cond_false rfl ?_
        refine wp_seq_k (fun K8 hK8 => ?_)
        refine wp_region_lit ?_
        refine wpList_plain rfl (fun Ko hKo => ?_)
        go_simp
        refine hKo _ _ ?_
        clear hKo Ko
        try simp only [Act.put, nm1, nm2, nm3, i64_w]
        refine wpList_plain rfl (fun Ko hKo => ?_)
        go_simp
        refine hKo _ _ ?_
        clear hKo Ko
        try simp only [Act.put, nm1, nm2, nm3, i64_w]
        refine wpList_nil ?_
        (try simp only [Exit.then, Exit.inBlock, ↓reduceIte, Nat.reduceEqDiff])
        refine hK8 _ _ ?_
        refine wp_cond_false rfl ?_
        refine wp_seq_k (fun K11 hK11 => ?_)
        refine wp_region_lit ?_
        refine wpList_plain rfl (fun Ko hKo => ?_)
        go_simp
        refine hKo _ _ ?_
        clear hKo Ko
        try simp only [Act.put, nm1, nm2, nm3, i64_w]
        refine wpList_plain rfl (fun Ko hKo => ?_)
        go_simp
        refine hKo _ _ ?_
        clear hKo Ko
        try simp only [Act.put, nm1, nm2, nm3, i64_w]
        refine wpList_nil ?_
        (try simp only [Exit.then, Exit.inBlock, ↓reduceIte, Nat.reduceEqDiff])
        refine hK11 _ _ ?_
        refine wp_cond_false rfl ?_
        refine wp_seq_k (fun K14 hK14 => ?_)
        refine wp_region_lit ?_
        refine wpList_plain rfl (fun Ko hKo => ?_)
        go_simp
        refine hKo _ _ ?_
        clear hKo Ko
        try simp only [Act.put, nm1, nm2, nm3, i64_w]
        refine wpList_plain rfl (fun Ko hKo => ?_)
        go_simp
        refine hKo _ _ ?_
        clear hKo Ko
        try simp only [Act.put, nm1, nm2, nm3, i64_w]
        refine wpList_nil ?_
        (try simp only [Exit.then, Exit.inBlock, ↓reduceIte, Nat.reduceEqDiff])
        refine hK14 _ _ ?_
        refine wp_cond_false rfl ?_
        refine wp_seq_k (fun K17 hK17 => ?_)
        refine wp_region_lit ?_
        refine wpList_plain rfl (fun Ko hKo => ?_)
        go_simp
        refine hKo _ _ ?_
        clear hKo Ko
        try simp only [Act.put, nm1, nm2, nm3, i64_w]
        refine wpList_plain rfl (fun Ko hKo => ?_)
        go_simp
        refine hKo _ _ ?_
        clear hKo Ko
        try simp only [Act.put, nm1, nm2, nm3, i64_w]
        refine wpList_nil ?_
        (try simp only [Exit.then, Exit.inBlock, ↓reduceIte, Nat.reduceEqDiff])
        refine hK17 _ _ ?_
        refine wp_cond_false rfl ?_
        refine wp_seq_k (fun K20 hK20 => ?_)
        refine wp_region_lit ?_
        refine wpList_plain rfl (fun Ko hKo => ?_)
        go_simp
        refine hKo _ _ ?_
        clear hKo Ko
        try simp only [Act.put, nm1, nm2, nm3, i64_w]
        refine wpList_plain rfl (fun Ko hKo => ?_)
        go_simp
        refine hKo _ _ ?_
        clear hKo Ko
        try simp only [Act.put, nm1, nm2, nm3, i64_w]
        refine wpList_nil ?_
        (try simp only [Exit.then, Exit.inBlock, ↓reduceIte, Nat.reduceEqDiff])
        refine hK20 _ _ ?_
        refine wp_cond_false rfl ?_
        refine wp_seq_k (fun K23 hK23 => ?_)
        refine wp_region_lit ?_
        refine wpList_plain rfl (fun Ko hKo => ?_)
        go_simp
        refine hKo _ _ ?_
        clear hKo Ko
        try simp only [Act.put, nm1, nm2, nm3, i64_w]
        refine wpList_plain rfl (fun Ko hKo => ?_)
        go_simp
        refine hKo _ _ ?_
        clear hKo Ko
        try simp only [Act.put, nm1, nm2, nm3, i64_w]
        refine wpList_nil ?_
        (try simp only [Exit.then, Exit.inBlock, ↓reduceIte, Nat.reduceEqDiff])
        refine hK23 _ _ ?_
        refine wp_cond_true rfl ?_
        refine wp_skip ?_
        (try simp only [Exit.then, Exit.inBlock, ↓reduceIte, Nat.reduceEqDiff])
        refine hK4 _ _ ?_
        refine wp_cond_true rfl ?_
        refine wp_seq_k (fun K25 hK25 => ?_)
        refine wp_region_lit ?_
        refine wpList_plain rfl (fun Ko hKo => ?_)
        go_simp
        refine hKo _ _ ?_
        clear hKo Ko
        try simp only [Act.put, nm1, nm2, nm3, i64_w]
        refine wpList_nil ?_
        (try simp only [Exit.then, Exit.inBlock, ↓reduceIte, Nat.reduceEqDiff])
        refine hK25 _ _ ?_
        refine wp_ret ?_
        (try simp only [Exit.then, Exit.inBlock, ↓reduceIte, Nat.reduceEqDiff])
        refine hQf _ _ _ ?_
        exact bodyPost_ret (v := .bool true) (by first | rfl | (simp [results, Try.results71, go_sem]; done) | (simp [results, Try.results71, go_sem]; rfl)) rfl ⟨rfl, (Up.refl _)⟩
       ·
        rw [if_neg c24] at H
        replace c24 := Bool.eq_false_iff.mpr c24
        have c24n : (a0 != 19) = true := by rw [bne, c24]; rfl
        have c24p : ¬ a0 = 19 := fun e => by simp [e] at c24
        by_cases c27 : (a0 == 23) = true
        ·
         rw [if_pos c27] at H
         have c27n : (a0 != 23) = false := by rw [bne, c27]; rfl
         obtain rfl := Option.some.inj H
         go_enter Try.func71, Try.ntmps71
         refine wp_hide (fun Qf hQf => ?_)
         refine wp_seq_k (fun K1 hK1 => ?_)
         refine wp_region_lit ?_
         refine wpList_plain rfl (fun Ko hKo => ?_)
         go_simp
         refine hKo _ _ ?_
         clear hKo Ko
         try simp only [Act.put, nm1, nm2, nm3, i64_w]
         refine wpList_nil ?_
         (try simp only [Exit.then, Exit.inBlock, ↓reduceIte, Nat.reduceEqDiff])
         refine hK1 _ _ ?_
         refine wp_seq_k (fun K2 hK2 => ?_)
         refine wp_seq_k (fun K3 hK3 => ?_)
         refine wp_region_lit ?_
         refine wpList_plain rfl (fun Ko hKo => ?_)
         go_simp
         refine hKo _ _ ?_
         clear hKo Ko
         try simp only [Act.put, nm1, nm2, nm3, i64_w]
         refine wpList_nil ?_
         (try simp only [Exit.then, Exit.inBlock, ↓reduceIte, Nat.reduceEqDiff])
         refine hK3 _ _ ?_
         refine wp_block ?_
         refine wp_seq_k (fun K4 hK4 => ?_)
         refine wp_seq_k (fun K5 hK5 => ?_)
         refine wp_region_lit ?_
         refine wpList_plain rfl (fun Ko hKo => ?_)
         go_simp
         refine hKo _ _ ?_
         clear hKo Ko
         try simp only [Act.put, nm1, nm2, nm3, i64_w]
         refine wpList_plain rfl (fun Ko hKo => ?_)
         go_simp
         refine hKo _ _ ?_
         clear hKo Ko
         try simp only [Act.put, nm1, nm2, nm3, i64_w]
         refine wpList_nil ?_
         (try simp only [Exit.then, Exit.inBlock, ↓reduceIte, Nat.reduceEqDiff])
         refine hK5 _ _ ?_
         refine wp_cond_false rfl ?_
         refine wp_seq_k (fun K8 hK8 => ?_)
         refine wp_region_lit ?_
         refine wpList_plain rfl (fun Ko hKo => ?_)
         go_simp
         refine hKo _ _ ?_
         clear hKo Ko
         try simp only [Act.put, nm1, nm2, nm3, i64_w]
         refine wpList_plain rfl (fun Ko hKo => ?_)
         go_simp
         refine hKo _ _ ?_
         clear hKo Ko
         try simp only [Act.put, nm1, nm2, nm3, i64_w]
         refine wpList_nil ?_
         (try simp only [Exit.then, Exit.inBlock, ↓reduceIte, Nat.reduceEqDiff])
         refine hK8 _ _ ?_
         refine wp_cond_false rfl ?_
         refine wp_seq_k (fun K11 hK11 => ?_)
         refine wp_region_lit ?_
         refine wpList_plain rfl (fun Ko hKo => ?_)
         go_simp
         refine hKo _ _ ?_
         clear hKo Ko
         try simp only [Act.put, nm1, nm2, nm3, i64_w]
         refine wpList_plain rfl (fun Ko hKo => ?_)
         go_simp
         refine hKo _ _ ?_
         clear hKo Ko
         try simp only [Act.put, nm1, nm2, nm3, i64_w]
         refine wpList_nil ?_
         (try simp only [Exit.then, Exit.inBlock, ↓reduceIte, Nat.reduceEqDiff])
         refine hK11 _ _ ?_
         refine wp_cond_false rfl ?_
         refine wp_seq_k (fun K14 hK14 => ?_)
         refine wp_region_lit ?_
         refine wpList_plain rfl (fun Ko hKo => ?_)
         go_simp
         refine hKo _ _ ?_
         clear hKo Ko
         try simp only [Act.put, nm1, nm2, nm3, i64_w]
         refine wpList_plain rfl (fun Ko hKo => ?_)
         go_simp
         refine hKo _ _ ?_
         clear hKo Ko
         try simp only [Act.put, nm1, nm2, nm3, i64_w]
         refine wpList_nil ?_
         (try simp only [Exit.then, Exit.inBlock, ↓reduceIte, Nat.reduceEqDiff])
         refine hK14 _ _ ?_
         refine wp_cond_false rfl ?_
         refine wp_seq_k (fun K17 hK17 => ?_)
         refine wp_region_lit ?_
         refine wpList_plain rfl (fun Ko hKo => ?_)
         go_simp
         refine hKo _ _ ?_
         clear hKo Ko
         try simp only [Act.put, nm1, nm2, nm3, i64_w]
         refine wpList_plain rfl (fun Ko hKo => ?_)
         go_simp
         refine hKo _ _ ?_
         clear hKo Ko
         try simp only [Act.put, nm1, nm2, nm3, i64_w]
         refine wpList_nil ?_
         (try simp only [Exit.then, Exit.inBlock, ↓reduceIte, Nat.reduceEqDiff])
         refine hK17 _ _ ?_
         refine wp_cond_false rfl ?_
         refine wp_seq_k (fun K20 hK20 => ?_)
         refine wp_region_lit ?_
         refine wpList_plain rfl (fun Ko hKo => ?_)
         go_simp
         refine hKo _ _ ?_
         clear hKo Ko
         try simp only [Act.put, nm1, nm2, nm3, i64_w]
         refine wpList_plain rfl (fun Ko hKo => ?_)
         go_simp
         refine hKo _ _ ?_
         clear hKo Ko
         try simp only [Act.put, nm1, nm2, nm3, i64_w]
         refine wpList_nil ?_
         (try simp only [Exit.then, Exit.inBlock, ↓reduceIte, Nat.reduceEqDiff])
         refine hK20 _ _ ?_
         refine wp_cond_false rfl ?_
         refine wp_seq_k (fun K23 hK23 => ?_)
         refine wp_region_lit ?_
         refine wpList_plain rfl (fun Ko hKo => ?_)
         go_simp
         refine hKo _ _ ?_
         clear hKo Ko
         try simp only [Act.put, nm1, nm2, nm3, i64_w]
         refine wpList_plain rfl (fun Ko hKo => ?_)
         go_simp
         refine hKo _ _ ?_
         clear hKo Ko
         try simp only [Act.put, nm1, nm2, nm3, i64_w]
         refine wpList_nil ?_
         (try simp only [Exit.then, Exit.inBlock, ↓reduceIte, Nat.reduceEqDiff])
         refine hK23 _ _ ?_
         refine wp_cond_false rfl ?_
         refine wp_seq_k (fun K26 hK26 => ?_)
         refine wp_region_lit ?_
         refine wpList_plain rfl (fun Ko hKo => ?_)
         go_simp
         refine hKo _ _ ?_
         clear hKo Ko
         try simp only [Act.put, nm1, nm2, nm3, i64_w]
         refine wpList_plain rfl (fun Ko hKo => ?_)
         go_simp
         refine hKo _ _ ?_
         clear hKo Ko
         try simp only [Act.put, nm1, nm2, nm3, i64_w]
         refine wpList_nil ?_
         (try simp only [Exit.then, Exit.inBlock, ↓reduceIte, Nat.reduceEqDiff])
         refine hK26 _ _ ?_
         refine wp_cond_true rfl ?_
         refine wp_skip ?_
         (try simp only [Exit.then, Exit.inBlock, ↓reduceIte, Nat.reduceEqDiff])
         refine hK4 _ _ ?_
         refine wp_cond_true rfl ?_
         refine wp_seq_k (fun K28 hK28 => ?_)
         refine wp_region_lit ?_
         refine wpList_plain rfl (fun Ko hKo => ?_)
         go_simp
         refine hKo _ _ ?_
         clear hKo Ko
         try simp only [Act.put, nm1, nm2, nm3, i64_w]
         refine wpList_nil ?_
         (try simp only [Exit.then, Exit.inBlock, ↓reduceIte, Nat.reduceEqDiff])
         refine hK28 _ _ ?_
         refine wp_ret ?_
         (try simp only [Exit.then, Exit.inBlock, ↓reduceIte, Nat.reduceEqDiff])
         refine hQf _ _ _ ?_
         exact bodyPost_ret (v := .bool true) (by first | rfl | (simp [results, Try.results71, go_sem]; done) | (simp [results, Try.results71, go_sem]; rfl)) rfl ⟨rfl, (Up.refl _)⟩
        ·
         rw [if_neg c27] at H
         replace c27 := Bool.eq_false_iff.mpr c27
         have c27n : (a0 != 23) = true := by rw [bne, c27]; rfl
         have c27p : ¬ a0 = 23 := fun e => by simp [e] at c27
         by_cases c30 : (a0 == 29) = true
         ·
          rw [if_pos c30] at H
          have c30n : (a0 != 29) = false := by rw [bne, c30]; rfl
          obtain rfl := Option.some.inj H
          go_enter Try.func71, Try.ntmps71
          refine wp_hide (fun Qf hQf => ?_)
          refine wp_seq_k (fun K1 hK1 => ?_)
          refine wp_region_lit ?_
          refine wpList_plain rfl (fun Ko hKo => ?_)
          go_simp
          refine hKo _ _ ?_
          clear hKo Ko
          try simp only [Act.put, nm1, nm2, nm3, i64_w]
          refine wpList_nil ?_
          (try simp only [Exit.then, Exit.inBlock, ↓reduceIte, Nat.reduceEqDiff])
          refine hK1 _ _ ?_
          refine wp_seq_k (fun K2 hK2 => ?_)
          refine wp_seq_k (fun K3 hK3 => ?_)
          refine wp_region_lit ?_
          refine wpList_plain rfl (fun Ko hKo => ?_)
          go_simp
          refine hKo _ _ ?_
          clear hKo Ko
          try simp only [Act.put, nm1, nm2, nm3, i64_w]
          refine wpList_nil ?_
          (try simp only [Exit.then, Exit.inBlock, ↓reduceIte, Nat.reduceEqDiff])
          refine hK3 _ _ ?_
          refine wp_block ?_
          refine wp_seq_k (fun K4 hK4 => ?_)
          refine wp_seq_k (fun K5 hK5 => ?_)
          refine wp_region_lit ?_
          refine wpList_plain rfl (fun Ko hKo => ?_)
          go_simp
          refine hKo _ _ ?_
          clear hKo Ko
          try simp only [Act.put, nm1, nm2, nm3, i64_w]
          refine wpList_plain rfl (fun Ko hKo => ?_)
          go_simp
          refine hKo _ _ ?_
          clear hKo Ko
          try simp only [Act.put, nm1, nm2, nm3, i64_w]
          refine wpList_nil ?_
          (try simp only [Exit.then, Exit.inBlock, ↓reduceIte, Nat.reduceEqDiff])
          refine hK5 _ _ ?_
          refine wp_cond_false rfl ?_
          refine wp_seq_k (fun K8 hK8 => ?_)
          refine wp_region_lit ?_
          refine wpList_plain rfl (fun Ko hKo => ?_)
          go_simp
          refine hKo _ _ ?_
          clear hKo Ko
          try simp only [Act.put, nm1, nm2, nm3, i64_w]
          refine wpList_plain rfl (fun Ko hKo => ?_)
          go_simp
          refine hKo _ _ ?_
          clear hKo Ko
          try simp only [Act.put, nm1, nm2, nm3, i64_w]
          refine wpList_nil ?_
          (try simp only [Exit.then, Exit.inBlock, ↓reduceIte, Nat.reduceEqDiff])
          refine hK8 _ _ ?_
          refine wp_cond_false rfl ?_
          refine wp_seq_k (fun K11 hK11 => ?_)
          refine wp_region_lit ?_
          refine wpList_plain rfl (fun Ko hKo => ?_)
          go_simp
          refine hKo _ _ ?_
          clear hKo Ko
          try simp only [Act.put, nm1, nm2, nm3, i64_w]
          refine wpList_plain rfl (fun Ko hKo => ?_)
          go_simp
          refine hKo _ _ ?_
          clear hKo Ko
          try simp only [Act.put, nm1, nm2, nm3, i64_w]
          refine wpList_nil ?_
          (try simp only [Exit.then, Exit.inBlock, ↓reduceIte, Nat.reduceEqDiff])
          refine hK11 _ _ ?_
          refine wp_cond_false rfl ?_
          refine wp_seq_k (fun K14 hK14 => ?_)
          refine wp_region_lit ?_
          refine wpList_plain rfl (fun Ko hKo => ?_)
          go_simp
          refine hKo _ _ ?_
          clear hKo Ko
          try simp only [Act.put, nm1, nm2, nm3, i64_w]
          refine wpList_plain rfl (fun Ko hKo => ?_)
          go_simp
          refine hKo _ _ ?_
          clear hKo Ko
          try simp only [Act.put, nm1, nm2, nm3, i64_w]
          refine wpList_nil ?_
          (try simp only [Exit.then, Exit.inBlock, ↓reduceIte, Nat.reduceEqDiff])
          refine hK14 _ _ ?_
          refine wp_cond_false rfl ?_
          refine wp_seq_k (fun K17 hK17 => ?_)
          refine wp_region_lit ?_
          refine wpList_plain rfl (fun Ko hKo => ?_)
          go_simp
          refine hKo _ _ ?_
          clear hKo Ko
          try simp only [Act.put, nm1, nm2, nm3, i64_w]
          refine wpList_plain rfl (fun Ko hKo => ?_)
          go_simp
          refine hKo _ _ ?_
          clear hKo Ko
          try simp only [Act.put, nm1, nm2, nm3, i64_w]
          refine wpList_nil ?_
          (try simp only [Exit.then, Exit.inBlock, ↓reduceIte, Nat.reduceEqDiff])
          refine hK17 _ _ ?_
          refine wp_cond_false rfl ?_
          refine wp_seq_k (fun K20 hK20 => ?_)
          refine wp_region_lit ?_
          refine wpList_plain rfl (fun Ko hKo => ?_)
          go_simp
          refine hKo _ _ ?_
          clear hKo Ko
          try simp only [Act.put, nm1, nm2, nm3, i64_w]
          refine wpList_plain rfl (fun Ko hKo => ?_)
          go_simp
          refine hKo _ _ ?_
          clear hKo Ko
          try simp only [Act.put, nm1, nm2, nm3, i64_w]
          refine wpList_nil ?_
          (try simp only [Exit.then, Exit.inBlock, ↓reduceIte, Nat.reduceEqDiff])
          refine hK20 _ _ ?_
          refine wp_cond_false rfl ?_
          refine wp_seq_k (fun K23 hK23 => ?_)
          refine wp_region_lit ?_
          refine wpList_plain rfl (fun Ko hKo => ?_)
          go_simp
          refine hKo _ _ ?_
          clear hKo Ko
          try simp only [Act.put, nm1, nm2, nm3, i64_w]
          refine wpList_plain rfl (fun Ko hKo => ?_)
          go_simp
          refine hKo _ _ ?_
          clear hKo Ko
          try simp only [Act.put, nm1, nm2, nm3, i64_w]
          refine wpList_nil ?_
          (try simp only [Exit.then, Exit.inBlock, ↓reduceIte, Nat.reduceEqDiff])
          refine hK23 _ _ ?_
          refine wp_cond_false rfl ?_
          refine wp_seq_k (fun K26 hK26 => ?_)
          refine wp_region_lit ?_
          refine wpList_plain rfl (fun Ko hKo => ?_)
          go_simp
          refine hKo _ _ ?_
          clear hKo Ko
          try simp only [Act.put, nm1, nm2, nm3, i64_w]
          refine wpList_plain rfl (fun Ko hKo => ?_)
          go_simp
          refine hKo _ _ ?_
          clear hKo Ko
          try simp only [Act.put, nm1, nm2, nm3, i64_w]
          refine wpList_nil ?_
          (try simp only [Exit.then, Exit.inBlock, ↓reduceIte, Nat.reduceEqDiff])
          refine hK26 _ _ ?_
          refine wp_cond_false rfl ?_
          refine wp_seq_k (fun K29 hK29 => ?_)
          refine wp_region_lit ?_
          refine wpList_plain rfl (fun Ko hKo => ?_)
          go_simp
          refine hKo _ _ ?_
          clear hKo Ko
          try simp only [Act.put, nm1, nm2, nm3, i64_w]
          refine wpList_plain rfl (fun Ko hKo => ?_)
          go_simp
          refine hKo _ _ ?_
          clear hKo Ko
          try simp only [Act.put, nm1, nm2, nm3, i64_w]
          refine wpList_nil ?_
          (try simp only [Exit.then, Exit.inBlock, ↓reduceIte, Nat.reduceEqDiff])
          refine hK29 _ _ ?_
          refine wp_cond_true rfl ?_
          refine wp_skip ?_
          (try simp only [Exit.then, Exit.inBlock, ↓reduceIte, Nat.reduceEqDiff])
          refine hK4 _ _ ?_
          refine wp_cond_true rfl ?_
          refine wp_seq_k (fun K31 hK31 => ?_)
          refine wp_region_lit ?_
          refine wpList_plain rfl (fun Ko hKo => ?_)
          go_simp
          refine hKo _ _ ?_
          clear hKo Ko
          try simp only [Act.put, nm1, nm2, nm3, i64_w]
          refine wpList_nil ?_
          (try simp only [Exit.then, Exit.inBlock, ↓reduceIte, Nat.reduceEqDiff])
          refine hK31 _ _ ?_
          refine wp_ret ?_
          (try simp only [Exit.then, Exit.inBlock, ↓reduceIte, Nat.reduceEqDiff])
          refine hQf _ _ _ ?_
          exact bodyPost_ret (v := .bool true) (by first | rfl | (simp [results, Try.results71, go_sem]; done) | (simp [results, Try.results71, go_sem]; rfl)) rfl ⟨rfl, (Up.refl _)⟩
         ·
          rw [if_neg c30] at H
          replace c30 := Bool.eq_false_iff.mpr c30
          have c30n : (a0 != 29) = true := by rw [bne, c30]; rfl
          have c30p : ¬ a0 = 29 := fun e => by simp [e] at c30
          by_cases c32 : (a0 == 31) = true
          ·
           rw [if_pos c32] at H
           have c32n : (a0 != 31) = false := by rw [bne, c32]; rfl
           obtain rfl := Option.some.inj H
           go_enter Try.func71, Try.ntmps71
           refine wp_hide (fun Qf hQf => ?_)
           refine wp_seq_k (fun K1 hK1 => ?_)
           refine wp_region_lit ?_
           refine wpList_plain rfl (fun Ko hKo => ?_)
           go_simp
           refine hKo _ _ ?_
           clear hKo Ko
           try simp only [Act.put, nm1, nm2, nm3, i64_w]
           refine wpList_nil ?_
           (try simp only [Exit.then, Exit.inBlock, ↓reduceIte, Nat.reduceEqDiff])
           refine hK1 _ _ ?_
           refine wp_seq_k (fun K2 hK2 => ?_)
           refine wp_seq_k (fun K3 hK3 => ?_)
           refine wp_region_lit ?_
           refine wpList_plain rfl (fun Ko hKo => ?_)
           go_simp
           refine hKo _ _ ?_
           clear hKo Ko
           try simp only [Act.put, nm1, nm2, nm3, i64_w]
           refine wpList_nil ?_
           (try simp only [Exit.then, Exit.inBlock, ↓reduceIte, Nat.reduceEqDiff])
           refine hK3 _ _ ?_
           refine wp_block ?_
           refine wp_seq_k (fun K4 hK4 => ?_)
           refine wp_seq_k (fun K5 hK5 => ?_)
           refine wp_region_lit ?_
           refine wpList_plain rfl (fun Ko hKo => ?_)
           go_simp
           refine hKo _ _ ?_
           clear hKo Ko
           try simp only [Act.put, nm1, nm2, nm3, i64_w]
           refine wpList_plain rfl (fun Ko hKo => ?_)
           go_simp
           refine hKo _ _ ?_
           clear hKo Ko
           try simp only [Act.put, nm1, nm2, nm3, i64_w]
           refine wpList_nil ?_
           (try simp only [Exit.then, Exit.inBlock, ↓reduceIte, Nat.reduceEqDiff])
           refine hK5 _ _ ?_
           refine wp_cond_false rfl ?_
           refine wp_seq_k (fun K8 hK8 => ?_)
           refine wp_region_lit ?_
           refine wpList_plain rfl (fun Ko hKo => ?_)
           go_simp
           refine hKo _ _ ?_
           clear hKo Ko
           try simp only [Act.put, nm1, nm2, nm3, i64_w]
           refine wpList_plain rfl (fun Ko hKo => ?_)
           go_simp
           refine hKo _ _ ?_
           clear hKo Ko
           try simp only [Act.put, nm1, nm2, nm3, i64_w]
           refine wpList_nil ?_
           (try simp only [Exit.then, Exit.inBlock, ↓reduceIte, Nat.reduceEqDiff])
           refine hK8 _ _ ?_
           refine wp_cond_false rfl ?_
           refine wp_seq_k (fun K11 hK11 => ?_)
           refine wp_region_lit ?_
           refine wpList_plain rfl (fun Ko hKo => ?_)
           go_simp
           refine hKo _ _ ?_
           clear hKo Ko
           try simp only [Act.put, nm1, nm2, nm3, i64_w]
           refine wpList_plain rfl (fun Ko hKo => ?_)
           go_simp
           refine hKo _ _ ?_
           clear hKo Ko
           try simp only [Act.put, nm1, nm2, nm3, i64_w]
           refine wpList_nil ?_
           (try simp only [Exit.then, Exit.inBlock, ↓reduceIte, Nat.reduceEqDiff])
           refine hK11 _ _ ?_
           refine wp_cond_false rfl ?_
           refine wp_seq_k (fun K14 hK14 => ?_)
           refine wp_region_lit ?_
           refine wpList_plain rfl (fun Ko hKo => ?_)
           go_simp
           refine hKo _ _ ?_
           clear hKo Ko
           try simp only [Act.put, nm1, nm2, nm3, i64_w]
           refine wpList_plain rfl (fun Ko hKo => ?_)
           go_simp
           refine hKo _ _ ?_
           clear hKo Ko
           try simp only [Act.put, nm1, nm2, nm3, i64_w]
           refine wpList_nil ?_
           (try simp only [Exit.then, Exit.inBlock, ↓reduceIte, Nat.reduceEqDiff])
           refine hK14 _ _ ?_
           refine wp_cond_false rfl ?_
           refine wp_seq_k (fun K17 hK17 => ?_)
           refine wp_region_lit ?_
           refine wpList_plain rfl (fun Ko hKo => ?_)
           go_simp
           refine hKo _ _ ?_
           clear hKo Ko
           try simp only [Act.put, nm1, nm2, nm3, i64_w]
           refine wpList_plain rfl (fun Ko hKo => ?_)
           go_simp
           refine hKo _ _ ?_
           clear hKo Ko
           try simp only [Act.put, nm1, nm2, nm3, i64_w]
           refine wpList_nil ?_
           (try simp only [Exit.then, Exit.inBlock, ↓reduceIte, Nat.reduceEqDiff])
           refine hK17 _ _ ?_
           refine wp_cond_false rfl ?_
           refine wp_seq_k (fun K20 hK20 => ?_)
           refine wp_region_lit ?_
           refine wpList_plain rfl (fun Ko hKo => ?_)
           go_simp
           refine hKo _ _ ?_
           clear hKo Ko
           try simp only [Act.put, nm1, nm2, nm3, i64_w]
           refine wpList_plain rfl (fun Ko hKo => ?_)
           go_simp
           refine hKo _ _ ?_
           clear hKo Ko
           try simp only [Act.put, nm1, nm2, nm3, i64_w]
           refine wpList_nil ?_
           (try simp only [Exit.then, Exit.inBlock, ↓reduceIte, Nat.reduceEqDiff])
           refine hK20 _ _ ?_
           refine wp_cond_false rfl ?_
           refine wp_seq_k (fun K23 hK23 => ?_)
           refine wp_region_lit ?_
           refine wpList_plain rfl (fun Ko hKo => ?_)
           go_simp
           refine hKo _ _ ?_
           clear hKo Ko
           try simp only [Act.put, nm1, nm2, nm3, i64_w]
           refine wpList_plain rfl (fun Ko hKo => ?_)
           go_simp
           refine hKo _ _ ?_
           clear hKo Ko
           try simp only [Act.put, nm1, nm2, nm3, i64_w]
           refine wpList_nil ?_
           (try simp only [Exit.then, Exit.inBlock, ↓reduceIte, Nat.reduceEqDiff])
           refine hK23 _ _ ?_
           refine wp_cond_false rfl ?_
           refine wp_seq_k (fun K26 hK26 => ?_)
           refine wp_region_lit ?_
           refine wpList_plain rfl (fun Ko hKo => ?_)
           go_simp
           refine hKo _ _ ?_
           clear hKo Ko
           try simp only [Act.put, nm1, nm2, nm3, i64_w]
           refine wpList_plain rfl (fun Ko hKo => ?_)
           go_simp
           refine hKo _ _ ?_
           clear hKo Ko
           try simp only [Act.put, nm1, nm2, nm3, i64_w]
           refine wpList_nil ?_
           (try simp only [Exit.then, Exit.inBlock, ↓reduceIte, Nat.reduceEqDiff])
           refine hK26 _ _ ?_
           refine wp_cond_false rfl ?_
           refine wp_seq_k (fun K29 hK29 => ?_)
           refine wp_region_lit ?_
           refine wpList_plain rfl (fun Ko hKo => ?_)
           go_simp
           refine hKo _ _ ?_
           clear hKo Ko
           try simp only [Act.put, nm1, nm2, nm3, i64_w]
           refine wpList_plain rfl (fun Ko hKo => ?_)
           go_simp
           refine hKo _ _ ?_
           clear hKo Ko
           try simp only [Act.put, nm1, nm2, nm3, i64_w]
           refine wpList_nil ?_
           (try simp only [Exit.then, Exit.inBlock, ↓reduceIte, Nat.reduceEqDiff])
           refine hK29 _ _ ?_
           refine wp_cond_false rfl ?_
           refine wp_region_lit ?_
           refine wpList_plain rfl (fun Ko hKo => ?_)
           go_simp
           refine hKo _ _ ?_
           clear hKo Ko
           try simp only [Act.put, nm1, nm2, nm3, i64_w]
           refine wpList_plain rfl (fun Ko hKo => ?_)
           go_simp
           refine hKo _ _ ?_
           clear hKo Ko
           try simp only [Act.put, nm1, nm2, nm3, i64_w]
           refine wpList_nil ?_
           (try simp only [Exit.then, Exit.inBlock, ↓reduceIte, Nat.reduceEqDiff])
           refine hK4 _ _ ?_
           refine wp_cond_true rfl ?_
           refine wp_seq_k (fun K33 hK33 => ?_)
           refine wp_region_lit ?_
           refine wpList_plain rfl (fun Ko hKo => ?_)
           go_simp
           refine hKo _ _ ?_
           clear hKo Ko
           try simp only [Act.put, nm1, nm2, nm3, i64_w]
           refine wpList_nil ?_
           (try simp only [Exit.then, Exit.inBlock, ↓reduceIte, Nat.reduceEqDiff])
           refine hK33 _ _ ?_
           refine wp_ret ?_
           (try simp only [Exit.then, Exit.inBlock, ↓reduceIte, Nat.reduceEqDiff])
           refine hQf _ _ _ ?_
           exact bodyPost_ret (v := .bool true) (by first | rfl | (simp [results, Try.results71, go_sem]; done) | (simp [results, Try.results71, go_sem]; rfl)) rfl ⟨rfl, (Up.refl _)⟩
          ·
           rw [if_neg c32] at H
           replace c32 := Bool.eq_false_iff.mpr c32
           have c32n : (a0 != 31) = true := by rw [bne, c32]; rfl
           have c32p : ¬ a0 = 31 := fun e => by simp [e] at c32
           obtain rfl := Option.some.inj H
           go_enter Try.func71, Try.ntmps71
           refine wp_hide (fun Qf hQf => ?_)
           refine wp_seq_k (fun K1 hK1 => ?_)
           refine wp_region_lit ?_
           refine wpList_plain rfl (fun Ko hKo => ?_)
           go_simp
           refine hKo _ _ ?_
           clear hKo Ko
           try simp only [Act.put, nm1, nm2, nm3, i64_w]
           refine wpList_nil ?_
           (try simp only [Exit.then, Exit.inBlock, ↓reduceIte, Nat.reduceEqDiff])
           refine hK1 _ _ ?_
           refine wp_seq_k (fun K2 hK2 => ?_)
           refine wp_seq_k (fun K3 hK3 => ?_)
           refine wp_region_lit ?_
           refine wpList_plain rfl (fun Ko hKo => ?_)
           go_simp
           refine hKo _ _ ?_
           clear hKo Ko
           try simp only [Act.put, nm1, nm2, nm3, i64_w]
           refine wpList_nil ?_
           (try simp only [Exit.then, Exit.inBlock, ↓reduceIte, Nat.reduceEqDiff])
           refine hK3 _ _ ?_
           refine wp_block ?_
           refine wp_seq_k (fun K4 hK4 => ?_)
           refine wp_seq_k (fun K5 hK5 => ?_)
           refine wp_region_lit ?_
           refine wpList_plain rfl (fun Ko hKo => ?_)
           go_simp
           refine hKo _ _ ?_
           clear hKo Ko
           try simp only [Act.put, nm1, nm2, nm3, i64_w]
           refine wpList_plain rfl (fun Ko hKo => ?_)
           go_simp
           refine hKo _ _ ?_
           clear hKo Ko
           try simp only [Act.put, nm1, nm2, nm3, i64_w]
           refine wpList_nil ?_
           (try simp only [Exit.then, Exit.inBlock, ↓reduceIte, Nat.reduceEqDiff])
           refine hK5 _ _ ?_
           refine wp_cond_false rfl ?_
           refine wp_seq_k (fun K8 hK8 => ?_)
           refine wp_region_lit ?_
           refine wpList_plain rfl (fun Ko hKo => ?_)
           go_simp
           refine hKo _ _ ?_
           clear hKo Ko
           try simp only [Act.put, nm1, nm2, nm3, i64_w]
           refine wpList_plain rfl (fun Ko hKo => ?_)
           go_simp
           refine hKo _ _ ?_
           clear hKo Ko
           try simp only [Act.put, nm1, nm2, nm3, i64_w]
           refine wpList_nil ?_
           (try simp only [Exit.then, Exit.inBlock, ↓reduceIte, Nat.reduceEqDiff])
           refine hK8 _ _ ?_
           refine wp_cond_false rfl ?_
           refine wp_seq_k (fun K11 hK11 => ?_)
           refine wp_region_lit ?_
           refine wpList_plain rfl (fun Ko hKo => ?_)
           go_simp
           refine hKo _ _ ?_
           clear hKo Ko
           try simp only [Act.put, nm1, nm2, nm3, i64_w]
           refine wpList_plain rfl (fun Ko hKo => ?_)
           go_simp
           refine hKo _ _ ?_
           clear hKo Ko
           try simp only [Act.put, nm1, nm2, nm3, i64_w]
           refine wpList_nil ?_
           (try simp only [Exit.then, Exit.inBlock, ↓reduceIte, Nat.reduceEqDiff])
           refine hK11 _ _ ?_
           refine wp_cond_false rfl ?_
           refine wp_seq_k (fun K14 hK14 => ?_)
           refine wp_region_lit ?_
           refine wpList_plain rfl (fun Ko hKo => ?_)
           go_simp
           refine hKo _ _ ?_
           clear hKo Ko
           try simp only [Act.put, nm1, nm2, nm3, i64_w]
           refine wpList_plain rfl (fun Ko hKo => ?_)
           go_simp
           refine hKo _ _ ?_
           clear hKo Ko
           try simp only [Act.put, nm1, nm2, nm3, i64_w]
           refine wpList_nil ?_
           (try simp only [Exit.then, Exit.inBlock, ↓reduceIte, Nat.reduceEqDiff])
           refine hK14 _ _ ?_
           refine wp_cond_false rfl ?_
           refine wp_seq_k (fun K17 hK17 => ?_)
           refine wp_region_lit ?_
           refine wpList_plain rfl (fun Ko hKo => ?_)
           go_simp
           refine hKo _ _ ?_
           clear hKo Ko
           try simp only [Act.put, nm1, nm2, nm3, i64_w]
           refine wpList_plain rfl (fun Ko hKo => ?_)
           go_simp
           refine hKo _ _ ?_
           clear hKo Ko
           try simp only [Act.put, nm1, nm2, nm3, i64_w]
           refine wpList_nil ?_
           (try simp only [Exit.then, Exit.inBlock, ↓reduceIte, Nat.reduceEqDiff])
           refine hK17 _ _ ?_
           refine wp_cond_false rfl ?_
           refine wp_seq_k (fun K20 hK20 => ?_)
           refine wp_region_lit ?_
           refine wpList_plain rfl (fun Ko hKo => ?_)
           go_simp
           refine hKo _ _ ?_
           clear hKo Ko
           try simp only [Act.put, nm1, nm2, nm3, i64_w]
           refine wpList_plain rfl (fun Ko hKo => ?_)
           go_simp
           refine hKo _ _ ?_
           clear hKo Ko
           try simp only [Act.put, nm1, nm2, nm3, i64_w]
           refine wpList_nil ?_
           (try simp only [Exit.then, Exit.inBlock, ↓reduceIte, Nat.reduceEqDiff])
           refine hK20 _ _ ?_
           refine wp_cond_false rfl ?_
           refine wp_seq_k (fun K23 hK23 => ?_)
           refine wp_region_lit ?_
           refine wpList_plain rfl (fun Ko hKo => ?_)
           go_simp
           refine hKo _ _ ?_
           clear hKo Ko
           try simp only [Act.put, nm1, nm2, nm3, i64_w]
           refine wpList_plain rfl (fun Ko hKo => ?_)
           go_simp
           refine hKo _ _ ?_
           clear hKo Ko
           try simp only [Act.put, nm1, nm2, nm3, i64_w]
           refine wpList_nil ?_
           (try simp only [Exit.then, Exit.inBlock, ↓reduceIte, Nat.reduceEqDiff])
           refine hK23 _ _ ?_
           refine wp_cond_false rfl ?_
           refine wp_seq_k (fun K26 hK26 => ?_)
           refine wp_region_lit ?_
           refine wpList_plain rfl (fun Ko hKo => ?_)
           go_simp
           refine hKo _ _ ?_
           clear hKo Ko
           try simp only [Act.put, nm1, nm2, nm3, i64_w]
           refine wpList_plain rfl (fun Ko hKo => ?_)
           go_simp
           refine hKo _ _ ?_
           clear hKo Ko
           try simp only [Act.put, nm1, nm2, nm3, i64_w]
           refine wpList_nil ?_
           (try simp only [Exit.then, Exit.inBlock, ↓reduceIte, Nat.reduceEqDiff])
           refine hK26 _ _ ?_
           refine wp_cond_false rfl ?_
           refine wp_seq_k (fun K29 hK29 => ?_)
           refine wp_region_lit ?_
           refine wpList_plain rfl (fun Ko hKo => ?_)
           go_simp
           refine hKo _ _ ?_
           clear hKo Ko
           try simp only [Act.put, nm1, nm2, nm3, i64_w]
           refine wpList_plain rfl (fun Ko hKo => ?_)
           go_simp
           refine hKo _ _ ?_
           clear hKo Ko
           try simp only [Act.put, nm1, nm2, nm3, i64_w]
           refine wpList_nil ?_
           (try simp only [Exit.then, Exit.inBlock, ↓reduceIte, Nat.reduceEqDiff])
           refine hK29 _ _ ?_
           refine wp_cond_false rfl ?_
           refine wp_region_lit ?_
           refine wpList_plain rfl (fun Ko hKo => ?_)
           go_simp
           refine hKo _ _ ?_
           clear hKo Ko
           try simp only [Act.put, nm1, nm2, nm3, i64_w]
           refine wpList_plain rfl (fun Ko hKo => ?_)
           go_simp
           refine hKo _ _ ?_
           clear hKo Ko
           try simp only [Act.put, nm1, nm2, nm3, i64_w]
           refine wpList_nil ?_
           (try simp only [Exit.then, Exit.inBlock, ↓reduceIte, Nat.reduceEqDiff])
           refine hK4 _ _ ?_
           refine wp_cond_false rfl ?_
           refine wp_skip ?_
           (try simp only [Exit.then, Exit.inBlock, ↓reduceIte, Nat.reduceEqDiff])
           refine hK2 _ _ ?_
           refine wp_seq_k (fun K34 hK34 => ?_)
           refine wp_region_lit ?_
           refine wpList_plain rfl (fun Ko hKo => ?_)
           go_simp
           refine hKo _ _ ?_
           clear hKo Ko
           try simp only [Act.put, nm1, nm2, nm3, i64_w]
           refine wpList_nil ?_
           (try simp only [Exit.then, Exit.inBlock, ↓reduceIte, Nat.reduceEqDiff])
           refine hK34 _ _ ?_
           refine wp_ret ?_
           (try simp only [Exit.then, Exit.inBlock, ↓reduceIte, Nat.reduceEqDiff])
           refine hQf _ _ _ ?_
           exact bodyPost_ret (v := .bool false) (by first | rfl | (simp [results, Try.results71, go_sem]; done) | (simp [results, Try.results71, go_sem]; rfl)) rfl ⟨rfl, (Up.refl _)⟩

set_option maxHeartbeats 4000000 in
set_option maxRecDepth 100000 in
theorem impl_CoefficientsOf_1.calls (K : Nat) (bf0 : Nat) (f0_0 : Int) (r0 : Bool) (w : World) (hf0 : Blk w bf0 [.int .i64 f0_0] 2) (h : impl_CoefficientsOf_1.f K f0_0 = some (r0)) :
    Calls Try.prog 61 #[.pointer (some ⟨bf0, 0, none⟩)] w fun e w' => e = .returned (.bool r0) ∧ Up w w' := by
 have H : ((if decide (0 ≤ f0_0) = true then some (decide (f0_0 ≤ 40)) else some false) : Option (Bool)) = some (r0) := h
 clear h
 by_cases c3 : (decide (0 ≤ f0_0)) = true
 ·
  rw [if_pos c3] at H
  obtain rfl := Option.some.inj H
  have ltbf0 := Aside0.mk hf0.lt
  go_enter Try.func61, Try.ntmps61
  refine wp_hide (fun Qf hQf => ?_)
  refine wp_seq_k (fun K1 hK1 => ?_)
  refine wp_region_lit ?_
  refine wpList_plain rfl (fun Ko hKo => ?_)
  go_simp
  refine hKo _ _ ?_
  clear hKo Ko
  try simp only [Act.put, nm1, nm2, nm3, i64_w]
  refine wpList_nil ?_
  (try simp only [Exit.then, Exit.inBlock, ↓reduceIte, Nat.reduceEqDiff])
  refine hK1 _ _ ?_
  refine wp_seq_k (fun K2 hK2 => ?_)
  refine wp_region_lit ?_
  have cl0 := hf0.cell (o := 0) rfl
  refine wpList_plain rfl (fun Ko hKo => ?_)
  go_simp
  refine hKo _ _ ?_
  clear hKo Ko
  clear cl0
  try simp only [Act.put, nm1, nm2, nm3, i64_w]
  refine wpList_plain rfl (fun Ko hKo => ?_)
  go_simp
  refine hKo _ _ ?_
  clear hKo Ko
  try simp only [Act.put, nm1, nm2, nm3, i64_w]
  refine wpList_plain rfl (fun Ko hKo => ?_)
  go_simp
  refine hKo _ _ ?_
  clear hKo Ko
  try simp only [Act.put, nm1, nm2, nm3, i64_w]
  have cl0 := hf0.cell (o := 0) rfl
  refine wpList_step (fun Ko hKo => ?_)
  go_simp
  refine hKo _ _ ?_
  clear hKo Ko
  clear cl0
  try simp only [Act.put, nm1, nm2, nm3, i64_w]
  refine wpList_step (fun Ko hKo => ?_)
  go_simp
  refine hKo _ _ ?_
  clear hKo Ko
  try simp only [Act.put, nm1, nm2, nm3, i64_w]
  refine wpList_plain rfl (fun Ko hKo => ?_)
  go_simp
  refine hKo _ _ ?_
  clear hKo Ko
  try simp only [Act.put, nm1, nm2, nm3, i64_w]
  refine wpList_plain rfl (fun Ko hKo => ?_)
  go_simp
  refine hKo _ _ ?_
  clear hKo Ko
  try simp only [Act.put, nm1, nm2, nm3, i64_w]
  refine wpList_nil ?_
  (try simp only [Exit.then, Exit.inBlock, ↓reduceIte, Nat.reduceEqDiff])
  refine hK2 _ _ ?_
  refine wp_ret ?_
  (try simp only [Exit.then, Exit.inBlock, ↓reduceIte, Nat.reduceEqDiff])
  refine hQf _ _ _ ?_
  exact bodyPost_ret (v := .bool (decide (f0_0 ≤ 40))) (by first | rfl | (simp [results, Try.results61, go_sem]; done) | (simp [results, Try.results61, go_sem]; rfl)) rfl ⟨rfl, (Up.refl _)⟩
 ·
  rw [if_neg c3] at H
  replace c3 := Bool.eq_false_iff.mpr c3
  obtain rfl := Option.some.inj H
  have ltbf0 := Aside0.mk hf0.lt
  go_enter Try.func61, Try.ntmps61
  refine wp_hide (fun Qf hQf => ?_)
  refine wp_seq_k (fun K1 hK1 => ?_)
  refine wp_region_lit ?_
  refine wpList_plain rfl (fun Ko hKo => ?_)
  go_simp
  refine hKo _ _ ?_
  clear hKo Ko
  try simp only [Act.put, nm1, nm2, nm3, i64_w]
  refine wpList_nil ?_
  (try simp only [Exit.then, Exit.inBlock, ↓reduceIte, Nat.reduceEqDiff])
  refine hK1 _ _ ?_
  refine wp_seq_k (fun K2 hK2 => ?_)
  refine wp_region_lit ?_
  have cl0 := hf0.cell (o := 0) rfl
  refine wpList_plain rfl (fun Ko hKo => ?_)
  go_simp
  refine hKo _ _ ?_
  clear hKo Ko
  clear cl0
  try simp only [Act.put, nm1, nm2, nm3, i64_w]
  refine wpList_plain rfl (fun Ko hKo => ?_)
  go_simp
  refine hKo _ _ ?_
  clear hKo Ko
  try simp only [Act.put, nm1, nm2, nm3, i64_w]
  refine wpList_plain rfl (fun Ko hKo => ?_)
  go_simp
  refine hKo _ _ ?_
  clear hKo Ko
  try simp only [Act.put, nm1, nm2, nm3, i64_w]
  refine step_no rfl ?_
  simp only [Act.put, nm1, nm2, nm3, i64_w]
  refine step_no rfl ?_
  simp only [Act.put, nm1, nm2, nm3, i64_w]
  refine wpList_plain rfl (fun Ko hKo => ?_)
  go_simp
  refine hKo _ _ ?_
  clear hKo Ko
  try simp only [Act.put, nm1, nm2, nm3, i64_w]
  refine wpList_plain rfl (fun Ko hKo => ?_)
  go_simp
  refine hKo _ _ ?_
  clear hKo Ko
  try simp only [Act.put, nm1, nm2, nm3, i64_w]
  refine wpList_nil ?_
  (try simp only [Exit.then, Exit.inBlock, ↓reduceIte, Nat.reduceEqDiff])
  refine hK2 _ _ ?_
  refine wp_ret ?_
  (try simp only [Exit.then, Exit.inBlock, ↓reduceIte, Nat.reduceEqDiff])
  refine hQf _ _ _ ?_
  exact bodyPost_ret (v := .bool false) (by first | rfl | (simp [results, Try.results61, go_sem]; done) | (simp [results, Try.results61, go_sem]; rfl)) rfl ⟨rfl, (Up.refl _)⟩

set_option maxHeartbeats 4000000 in
set_option maxRecDepth 100000 in
theorem impl_asked__impl_CoefficientsOf_1.calls (K : Nat) (a0 : Int) (bc1_0 : Nat) (c1_0_0 : Int) (r0 : Int) (w : World) (hc1_0 : Blk w bc1_0 [.int .i64 c1_0_0] 2) (h : impl_asked__impl_CoefficientsOf_1.f K a0 c1_0_0 = some (r0)) :
    Calls Try.prog 44 #[.int .i64 a0, .func (.func 61) #[] #[.pointer (some ⟨bc1_0, 0, none⟩)]] w fun e w' => e = .returned (.int .i64 r0) ∧ Up w w' := by
 have H : (((impl_IsField.f K a0).bind fun t4 => (if t4 = true then ((impl_CoefficientsOf_1.f K c1_0_0).bind fun t11 => (if t11 = true then some 0 else some 2)) else some 1)) : Option (Int)) = some (r0) := h
 clear h
 replace H := Option.bind_eq_some_iff.mp H
 obtain ⟨t4, A5, H⟩ := H
 replace A5 := Aside0.mk A5
 try dsimp only at H
 by_cases c8 : (t4) = true
 ·
  rw [if_pos c8] at H
  subst c8
  replace H := Option.bind_eq_some_iff.mp H
  obtain ⟨t11, A12, H⟩ := H
  replace A12 := Aside0.mk A12
  try dsimp only at H
  by_cases c15 : (t11) = true
  ·
   rw [if_pos c15] at H
   subst c15
   obtain rfl := Option.some.inj H
   have ltbc1_0 := Aside0.mk hc1_0.lt
   go_enter Try.func44, Try.ntmps44
   refine wp_hide (fun Qf hQf => ?_)
   refine wp_seq_k (fun K1 hK1 => ?_)
   refine wp_region_lit ?_
   refine wpList_plain rfl (fun Ko hKo => ?_)
   go_simp
   refine hKo _ _ ?_
   clear hKo Ko
   try simp only [Act.put, nm1, nm2, nm3, i64_w]
   refine wpList_nil ?_
   (try simp only [Exit.then, Exit.inBlock, ↓reduceIte, Nat.reduceEqDiff])
   refine hK1 _ _ ?_
   refine wp_seq_k (fun K2 hK2 => ?_)
   refine wp_seq_k (fun K3 hK3 => ?_)
   refine wp_region_lit ?_
   refine wpList_plain rfl (fun Ko hKo => ?_)
   go_simp
   refine hKo _ _ ?_
   clear hKo Ko
   try simp only [Act.put, nm1, nm2, nm3, i64_w]
   refine step_call (wanted_none rfl) (by first | (go_simp; done) | (go_simp; rfl)) (impl_IsField.calls K a0 true w  A5.out) ?_
   rintro e w6 ⟨rfl, hu⟩
   have hu7 := Aside0.mk hu
   clear hu
   refine ⟨_, rfl, ?_⟩
   simp only [Act.put, nm1, nm2, nm3, i64_w]
   refine wpList_plain rfl (fun Ko hKo => ?_)
   go_simp
   refine hKo _ _ ?_
   clear hKo Ko
   try simp only [Act.put, nm1, nm2, nm3, i64_w]
   refine wpList_nil ?_
   (try simp only [Exit.then, Exit.inBlock, ↓reduceIte, Nat.reduceEqDiff])
   refine hK3 _ _ ?_
   refine wp_cond_false rfl ?_
   refine wp_skip ?_
   (try simp only [Exit.then, Exit.inBlock, ↓reduceIte, Nat.reduceEqDiff])
   refine hK2 _ _ ?_
   refine wp_seq_k (fun K9 hK9 => ?_)
   refine wp_seq_k (fun K10 hK10 => ?_)
   refine wp_region_lit ?_
   refine wpList_plain rfl (fun Ko hKo => ?_)
   go_simp
   refine hKo _ _ ?_
   clear hKo Ko
   try simp only [Act.put, nm1, nm2, nm3, i64_w]
   refine step_call (wanted_none rfl) (by first | (go_simp; done) | (go_simp; rfl)) (impl_CoefficientsOf_1.calls K bc1_0 c1_0_0 true w6 (hc1_0.up hu7.out) A12.out) ?_
   rintro e w13 ⟨rfl, hu⟩
   have hu14 := Aside0.mk hu
   clear hu
   refine ⟨_, rfl, ?_⟩
   simp only [Act.put, nm1, nm2, nm3, i64_w]
   refine wpList_plain rfl (fun Ko hKo => ?_)
   go_simp
   refine hKo _ _ ?_
   clear hKo Ko
   try simp only [Act.put, nm1, nm2, nm3, i64_w]
   refine wpList_nil ?_
   (try simp only [Exit.then, Exit.inBlock, ↓reduceIte, Nat.reduceEqDiff])
   refine hK10 _ _ ?_
   refine wp_cond_false rfl ?_
   refine wp_skip ?_
   (try simp only [Exit.then, Exit.inBlock, ↓reduceIte, Nat.reduceEqDiff])
   refine hK9 _ _ ?_
   refine wp_seq_k (fun K16 hK16 => ?_)
   refine wp_region_lit ?_
   refine wpList_plain rfl (fun Ko hKo => ?_)
   go_simp
   refine hKo _ _ ?_
   clear hKo Ko
   try simp only [Act.put, nm1, nm2, nm3, i64_w]
   refine wpList_nil ?_
   (try simp only [Exit.then, Exit.inBlock, ↓reduceIte, Nat.reduceEqDiff])
   refine hK16 _ _ ?_
   refine wp_ret ?_
   (try simp only [Exit.then, Exit.inBlock, ↓reduceIte, Nat.reduceEqDiff])
   refine hQf _ _ _ ?_
   exact bodyPost_ret (v := .int .i64 0) (by first | rfl | (simp [results, Try.results44, go_sem]; done) | (simp [results, Try.results44, go_sem]; rfl)) rfl ⟨rfl, (hu7.out.trans hu14.out)⟩
  ·
   rw [if_neg c15] at H
   replace c15 := Bool.eq_false_iff.mpr c15
   subst c15
   obtain rfl := Option.some.inj H
   have ltbc1_0 := Aside0.mk hc1_0.lt
   go_enter Try.func44, Try.ntmps44
   refine wp_hide (fun Qf hQf => ?_)
   refine wp_seq_k (fun K1 hK1 => ?_)
   refine wp_region_lit ?_
   refine wpList_plain rfl (fun Ko hKo => ?_)
   go_simp
   refine hKo _ _ ?_
   clear hKo Ko
   try simp only [Act.put, nm1, nm2, nm3, i64_w]
   refine wpList_nil ?_
   (try simp only [Exit.then, Exit.inBlock, ↓reduceIte, Nat.reduceEqDiff])
   refine hK1 _ _ ?_
   refine wp_seq_k (fun K2 hK2 => ?_)
   refine wp_seq_k (fun K3 hK3 => ?_)
   refine wp_region_lit ?_
   refine wpList_plain rfl (fun Ko hKo => ?_)
   go_simp
   refine hKo _ _ ?_
   clear hKo Ko
   try simp only [Act.put, nm1, nm2, nm3, i64_w]
   refine step_call (wanted_none rfl) (by first | (go_simp; done) | (go_simp; rfl)) (impl_IsField.calls K a0 true w  A5.out) ?_
   rintro e w6 ⟨rfl, hu⟩
   have hu7 := Aside0.mk hu
   clear hu
   refine ⟨_, rfl, ?_⟩
   simp only [Act.put, nm1, nm2, nm3, i64_w]
   refine wpList_plain rfl (fun Ko hKo => ?_)
   go_simp
   refine hKo _ _ ?_
   clear hKo Ko
   try simp only [Act.put, nm1, nm2, nm3, i64_w]
   refine wpList_nil ?_
   (try simp only [Exit.then, Exit.inBlock, ↓reduceIte, Nat.reduceEqDiff])
   refine hK3 _ _ ?_
   refine wp_cond_false rfl ?_
   refine wp_skip ?_
   (try simp only [Exit.then, Exit.inBlock, ↓reduceIte, Nat.reduceEqDiff])
   refine hK2 _ _ ?_
   refine wp_seq_k (fun K9 hK9 => ?_)
   refine wp_seq_k (fun K10 hK10 => ?_)
   refine wp_region_lit ?_
   refine wpList_plain rfl (fun Ko hKo => ?_)
   go_simp
   refine hKo _ _ ?_
   clear hKo Ko
   try simp only [Act.put, nm1, nm2, nm3, i64_w]
   refine step_call (wanted_none rfl) (by first | (go_simp; done) | (go_simp; rfl)) (impl_CoefficientsOf_1.calls K bc1_0 c1_0_0 false w6 (hc1_0.up hu7.out) A12.out) ?_
   rintro e w13 ⟨rfl, hu⟩
   have hu14 := Aside0.mk hu
   clear hu
   refine ⟨_, rfl, ?_⟩
   simp only [Act.put, nm1, nm2, nm3, i64_w]
   refine wpList_plain rfl (fun Ko hKo => ?_)
   go_simp
   refine hKo _ _ ?_
   clear hKo Ko
   try simp only [Act.put, nm1, nm2, nm3, i64_w]
   refine wpList_nil ?_
   (try simp only [Exit.then, Exit.inBlock, ↓reduceIte, Nat.reduceEqDiff])
   refine hK10 _ _ ?_
   refine wp_cond_true rfl ?_
   refine wp_seq_k (fun K17 hK17 => ?_)
   refine wp_region_lit ?_
   refine wpList_plain rfl (fun Ko hKo => ?_)
   go_simp
   refine hKo _ _ ?_
   clear hKo Ko
   try simp only [Act.put, nm1, nm2, nm3, i64_w]
   refine wpList_nil ?_
   (try simp only [Exit.then, Exit.inBlock, ↓reduceIte, Nat.reduceEqDiff])
   refine hK17 _ _ ?_
   refine wp_ret ?_
   (try simp only [Exit.then, Exit.inBlock, ↓reduceIte, Nat.reduceEqDiff])
   refine hQf _ _ _ ?_
   exact bodyPost_ret (v := .int .i64 2) (by first | rfl | (simp [results, Try.results44, go_sem]; done) | (simp [results, Try.results44, go_sem]; rfl)) rfl ⟨rfl, (hu7.out.trans hu14.out)⟩
 ·
  rw [if_neg c8] at H
  replace c8 := Bool.eq_false_iff.mpr c8
  subst c8
  obtain rfl := Option.some.inj H
  have ltbc1_0 := Aside0.mk hc1_0.lt
  go_enter Try.func44, Try.ntmps44
  refine wp_hide (fun Qf hQf => ?_)
  refine wp_seq_k (fun K1 hK1 => ?_)
  refine wp_region_lit ?_
  refine wpList_plain rfl (fun Ko hKo => ?_)
  go_simp
  refine hKo _ _ ?_
  clear hKo Ko
  try simp only [Act.put, nm1, nm2, nm3, i64_w]
  refine wpList_nil ?_
  (try simp only [Exit.then, Exit.inBlock, ↓reduceIte, Nat.reduceEqDiff])
  refine hK1 _ _ ?_
  refine wp_seq_k (fun K2 hK2 => ?_)
  refine wp_seq_k (fun K3 hK3 => ?_)
  refine wp_region_lit ?_
  refine wpList_plain rfl (fun Ko hKo => ?_)
  go_simp
  refine hKo _ _ ?_
  clear hKo Ko
  try simp only [Act.put, nm1, nm2, nm3, i64_w]
  refine step_call (wanted_none rfl) (by first | (go_simp; done) | (go_simp; rfl)) (impl_IsField.calls K a0 false w  A5.out) ?_
  rintro e w6 ⟨rfl, hu⟩
  have hu7 := Aside0.mk hu
  clear hu
  refine ⟨_, rfl, ?_⟩
  simp only [Act.put, nm1, nm2, nm3, i64_w]
  refine wpList_plain rfl (fun Ko hKo => ?_)
  go_simp
  refine hKo _ _ ?_
  clear hKo Ko
  try simp only [Act.put, nm1, nm2, nm3, i64_w]
  refine wpList_nil ?_
  (try simp only [Exit.then, Exit.inBlock, ↓reduceIte, Nat.reduceEqDiff])
  refine hK3 _ _ ?_
  refine wp_cond_true rfl ?_
  refine wp_seq_k (fun K18 hK18 => ?_)
  refine wp_region_lit ?_
  refine wpList_plain rfl (fun Ko hKo => ?_)
  go_simp
  refine hKo _ _ ?_
  clear hKo Ko
  try simp only [Act.put, nm1, nm2, nm3, i64_w]
  refine wpList_nil ?_
  (try simp only [Exit.then, Exit.inBlock, ↓reduceIte, Nat.reduceEqDiff])
  refine hK18 _ _ ?_
  refine wp_ret ?_
  (try simp only [Exit.then, Exit.inBlock, ↓reduceIte, Nat.reduceEqDiff])
  refine hQf _ _ _ ?_
  exact bodyPost_ret (v := .int .i64 1) (by first | rfl | (simp [results, Try.results44, go_sem]; done) | (simp [results, Try.results44, go_sem]; rfl)) rfl ⟨rfl, hu7.out⟩

set_option maxHeartbeats 4000000 in
set_option maxRecDepth 100000 in
theorem impl_rest.calls (K : Nat) (a0 : Int) (a1 : Int) (r0 : Int) (w : World)  (h : impl_rest.f K a0 a1 = some (r0)) :
    Calls Try.prog 62 #[.int .i64 a0, .int .i64 a1] w fun e w' => e = .returned (.int .i64 r0) ∧ Up w w' := by
 have H : ((if (a0 == 0) = true then none else some (Int.tmod (wrap64 ((Int.tmod a1 a0) + a0)) a0)) : Option (Int)) = some (r0) := h
 clear h
 by_cases c3 : (a0 == 0) = true
 ·
  rw [if_pos c3] at H
  have c3n : (a0 != 0) = false := by rw [bne, c3]; rfl
  exact absurd H (by simp)
 ·
  rw [if_neg c3] at H
  replace c3 := Bool.eq_false_iff.mpr c3
  have c3n : (a0 != 0) = true := by rw [bne, c3]; rfl
  have c3p : ¬ a0 = 0 := fun e => by simp [e] at c3
  obtain rfl := Option.some.inj H
  go_enter Try.func62, Try.ntmps62
  refine wp_hide (fun Qf hQf => ?_)
  refine wp_seq_k (fun K1 hK1 => ?_)
  refine wp_region_lit ?_
  refine wpList_plain rfl (fun Ko hKo => ?_)
  go_simp
  refine hKo _ _ ?_
  clear hKo Ko
  try simp only [Act.put, nm1, nm2, nm3, i64_w]
  refine wpList_nil ?_
  (try simp only [Exit.then, Exit.inBlock, ↓reduceIte, Nat.reduceEqDiff])
  refine hK1 _ _ ?_
  refine wp_seq_k (fun K2 hK2 => ?_)
  refine wp_region_lit ?_
  refine wpList_plain rfl (fun Ko hKo => ?_)
  go_simp
  refine hKo _ _ ?_
  clear hKo Ko
  try simp only [Act.put, nm1, nm2, nm3, i64_w]
  refine wpList_plain rfl (fun Ko hKo => ?_)
  go_simp
  refine hKo _ _ ?_
  clear hKo Ko
  try simp only [Act.put, nm1, nm2, nm3, i64_w]
  refine wpList_plain rfl (fun Ko hKo => ?_)
  go_simp
  refine hKo _ _ ?_
  clear hKo Ko
  try simp only [Act.put, nm1, nm2, nm3, i64_w]
  refine wpList_plain rfl (fun Ko hKo => ?_)
  go_simp
  refine hKo _ _ ?_
  clear hKo Ko
  try simp only [Act.put, nm1, nm2, nm3, i64_w]
  refine wpList_plain rfl (fun Ko hKo => ?_)
  go_simp
  refine hKo _ _ ?_
  clear hKo Ko
  try simp only [Act.put, nm1, nm2, nm3, i64_w]
  refine wpList_plain rfl (fun Ko hKo => ?_)
  go_simp
  refine hKo _ _ ?_
  clear hKo Ko
  try simp only [Act.put, nm1, nm2, nm3, i64_w]
  refine wpList_plain rfl (fun Ko hKo => ?_)
  go_simp
  refine hKo _ _ ?_
  clear hKo Ko
  try simp only [Act.put, nm1, nm2, nm3, i64_w]
  refine wpList_plain rfl (fun Ko hKo => ?_)
  go_simp
  refine hKo _ _ ?_
  clear hKo Ko
  try simp only [Act.put, nm1, nm2, nm3, i64_w]
  refine wpList_nil ?_
  (try simp only [Exit.then, Exit.inBlock, ↓reduceIte, Nat.reduceEqDiff])
  refine hK2 _ _ ?_
  refine wp_ret ?_
  (try simp only [Exit.then, Exit.inBlock, ↓reduceIte, Nat.reduceEqDiff])
  refine hQf _ _ _ ?_
  exact bodyPost_ret (v := .int .i64 (Int.tmod (wrap64 ((Int.tmod a1 a0) + a0)) a0)) (by first | rfl | (simp [results, Try.results62, go_sem]; done) | (simp [results, Try.results62, go_sem]; rfl)) rfl ⟨rfl, (Up.refl _)⟩

end Go.Proofs.Ythmfgkdhaookoaa
