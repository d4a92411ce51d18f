/- The walks: each of these functions of the program computes what its plain function says: laws_eqInt64S, laws_markInt64S, laws_heldInt64S. -/
import Derived.Test.YthmfgkdhaookoaaProg
import Derived.Test.YthmfgkdhaookoaaD1
import Derived.WalkKit
import Derived.KernelRfl
import Derived.BigQuiet
import Derived.Deep.LoopGhost
import Derived.Laws.StructEq
import Derived.Test.YthmfgkdhaookoaaWOrdOf1
namespace Go.Proofs.Ythmfgkdhaookoaa
open Go Go.RowKit
attribute [local go_sem] Oper.quiet Oper.quietAt Oper.quietUpon
set_option linter.unusedVariables false
set_option linter.unusedSimpArgs false

set_option maxHeartbeats 4000000 in
set_option maxRecDepth 100000 in
theorem laws_eqInt64S.calls (K : Nat) (a0_A : Option Addr) (a0_c : Nat) (a0 : List (Int)) (a1_A : Option Addr) (a1_c : Nat) (a1 : List (Int)) (r0 : Bool) (w : World) (ha0 : Rd eI w a0_A a0) (ha1 : Rd eI w a1_A a1) (h : laws_eqInt64S.f K a0 a1 = some (r0)) :
    Calls Try.prog 27 #[.slice a0_A a0.length a0_c, .slice a1_A a1.length a1_c] w fun e w' => e = .returned (.bool r0) ∧ Up w w' := by
 have H : ((if ((a0.length : Int) == (a1.length : Int)) = true then (laws_eqInt64S.l0 K a0 a1 K 0) else some false) : Option (Bool)) = some (r0) := h
 clear h
 by_cases c4 : ((a0.length : Int) == (a1.length : Int)) = true
 ·
  rw [if_pos c4] at H
  have c4n : ((a0.length : Int) != (a1.length : Int)) = false := by rw [bne, c4]; rfl
  go_enter Try.func27, Try.ntmps27
  refine wp_hide (fun Qf hQf => ?_)
  refine wp_seq_k (fun K1 hK1 => ?_)
  refine wp_region_lit ?_
  refine wpList_plain rfl (fun Ko hKo => ?_)
  go_simp
  refine hKo _ _ ?_
  clear hKo Ko
  try simp only [Act.put, nm1, nm2, nm3, i64_w]
  refine wpList_nil ?_
  (try simp only [Exit.then, Exit.inBlock, ↓reduceIte, Nat.reduceEqDiff])
  refine hK1 _ _ ?_
  refine wp_seq_k (fun K2 hK2 => ?_)
  refine wp_seq_k (fun K3 hK3 => ?_)
  refine wp_region_lit ?_
  refine wpList_plain rfl (fun Ko hKo => ?_)
  go_simp
  refine hKo _ _ ?_
  clear hKo Ko
  try simp only [Act.put, nm1, nm2, nm3, i64_w]
  refine wpList_plain rfl (fun Ko hKo => ?_)
  go_simp
  refine hKo _ _ ?_
  clear hKo Ko
  try simp only [Act.put, nm1, nm2, nm3, i64_w]
  refine wpList_plain rfl (fun Ko hKo => ?_)
  go_simp
  refine hKo _ _ ?_
  clear hKo Ko
  try simp only [Act.put, nm1, nm2, nm3, i64_w]
  refine wpList_plain rfl (fun Ko hKo => ?_)
  go_simp
  refine hKo _ _ ?_
  clear hKo Ko
  try simp only [Act.put, nm1, nm2, nm3, i64_w]
  refine wpList_plain rfl (fun Ko hKo => ?_)
  go_simp
  refine hKo _ _ ?_
  clear hKo Ko
  try simp only [Act.put, nm1, nm2, nm3, i64_w]
  refine wpList_nil ?_
  (try simp only [Exit.then, Exit.inBlock, ↓reduceIte, Nat.reduceEqDiff])
  refine hK3 _ _ ?_
  refine wp_cond_false rfl ?_
  refine wp_skip ?_
  (try simp only [Exit.then, Exit.inBlock, ↓reduceIte, Nat.reduceEqDiff])
  refine hK2 _ _ ?_
  refine wp_seq_k (fun K5 hK5 => ?_)
  refine wp_seq_k (fun K6 hK6 => ?_)
  refine wp_region_lit ?_
  refine wpList_plain rfl (fun Ko hKo => ?_)
  go_simp
  refine hKo _ _ ?_
  clear hKo Ko
  try simp only [Act.put, nm1, nm2, nm3, i64_w]
  refine wpList_nil ?_
  (try simp only [Exit.then, Exit.inBlock, ↓reduceIte, Nat.reduceEqDiff])
  refine hK6 _ _ ?_
  refine wp_block ?_
  have HL11 := Aside0.mk H
  clear H
  go_loopg [5] K (fun kq v5 w' => ∃ (x7 : Int), v5 = .int .i64 x7 ∧ Aside0 (laws_eqInt64S.l0 K a0 a1 kq x7 = some (r0)) ∧ Aside0 (kq ≤ K) ∧ Aside0 (Up w w') ∧ Aside0 (w.heap.size ≤ w'.heap.size))
  case atStart => exact ⟨0, (by first | rfl | simp), HL11, ⟨Nat.le_refl _⟩, ⟨(Up.refl _)⟩, ⟨Nat.le_refl _⟩⟩
  case round =>
   rename_i J15 K16 hJ15 hK16
   obtain ⟨x7, rfl, HL14, hk13, hu9, hz10⟩ := hrel
   obtain ⟨w8, rfl⟩ : ∃ wo : World, wo = wr := ⟨_, rfl⟩
   obtain ⟨k12, rfl⟩ | rfl : (∃ k, gk = k + 1) ∨ gk = 0 := by rcases gk with _ | k; exact .inr rfl; exact .inl ⟨k, rfl⟩
   case inr => exact absurd HL14.out (by simp [laws_eqInt64S.l0])
   have H := HL14.out
   clear HL14
   rw [laws_eqInt64S.l0] at H
   by_cases c19 : (decide (x7 < (a0.length : Int))) = true
   ·
    rw [if_pos c19] at H
    replace H := Option.bind_eq_some_iff.mp H
    obtain ⟨t22, A23, H⟩ := H
    replace A23 := Aside0.mk A23
    try dsimp only at H
    replace H := Option.bind_eq_some_iff.mp H
    obtain ⟨t28, A29, H⟩ := H
    replace A29 := Aside0.mk A29
    try dsimp only at H
    by_cases c36 : (t22 == t28) = true
    ·
     rw [if_pos c36] at H
     have c36n : (t22 != t28) = false := by rw [bne, c36]; rfl
     have HL37 := Aside0.mk H
     clear H
     refine wp_seq_k (fun K17 hK17 => ?_)
     refine wp_seq_k (fun K18 hK18 => ?_)
     refine wp_region_lit ?_
     refine wpList_plain rfl (fun Ko hKo => ?_)
     go_simp
     refine hKo _ _ ?_
     clear hKo Ko
     try simp only [Act.put, nm1, nm2, nm3, i64_w]
     refine wpList_plain rfl (fun Ko hKo => ?_)
     go_simp
     refine hKo _ _ ?_
     clear hKo Ko
     try simp only [Act.put, nm1, nm2, nm3, i64_w]
     refine wpList_plain rfl (fun Ko hKo => ?_)
     go_simp
     refine hKo _ _ ?_
     clear hKo Ko
     try simp only [Act.put, nm1, nm2, nm3, i64_w]
     refine wpList_plain rfl (fun Ko hKo => ?_)
     go_simp
     refine hKo _ _ ?_
     clear hKo Ko
     try simp only [Act.put, nm1, nm2, nm3, i64_w]
     refine wpList_nil ?_
     (try simp only [Exit.then, Exit.inBlock, ↓reduceIte, Nat.reduceEqDiff])
     refine hK18 _ _ ?_
     refine wp_cond_true rfl ?_
     refine wp_skip ?_
     (try simp only [Exit.then, Exit.inBlock, ↓reduceIte, Nat.reduceEqDiff])
     refine hK17 _ _ ?_
     refine wp_seq_k (fun K20 hK20 => ?_)
     refine wp_block ?_
     refine wp_seq_k (fun K21 hK21 => ?_)
     obtain ⟨ad24, hat, he⟩ := rd_at (ha0.up hu9.out) A23.out
     have he25 := Aside0.mk he
     have hat27 := Aside0.mk hat
     clear he hat
     obtain ⟨ad30, hat, he⟩ := rd_at (ha1.up hu9.out) A29.out
     have he31 := Aside0.mk he
     have hat33 := Aside0.mk hat
     clear he hat
     refine' wp_region_up 9 [Slot.det _, Slot.det _, Slot.det (.pointer (some ad24)), Slot.det _, Slot.det _, Slot.det _, Slot.det (.pointer (some ad30)), Slot.det _, Slot.det _] (by kernel_rfl) (by kernel_rfl) ?main
     case main =>
      simp only [List.take_succ_cons, List.take_zero]
      refine wpK_ops rfl (fun w1 hu => ?_) ?_
      · clear hu
        go_simp
        first | done | rfl
      simp only [Act.put, nm1, nm2, nm3, i64_w]
      refine wpK_ops rfl (fun w1 hu => ?_) ?_
      · clear hu
        go_simp
        first | done | rfl
      simp only [Act.put, nm1, nm2, nm3, i64_w]
      refine wpK_ops rfl (fun w1 hu => ?_) ?_
      · exact quiet_index eI (T := 2) rfl (by kernel_rfl) (by kernel_rfl) rfl rfl rfl hat27.out A23.out
      simp only [Act.put, nm1, nm2, nm3, i64_w]
      refine wpK_ops rfl (fun w1 hu => ?_) ?_
      · have cl0 := he25.out 0 _ rfl
        rw [addr_add0] at cl0
        replace cl0 := (((Up.refl _).drew.trans hu)).kept cl0
        go_simp
        first | done | rfl
      simp only [Act.put, nm1, nm2, nm3, i64_w]
      refine wpK_ops rfl (fun w1 hu => ?_) ?_
      · clear hu
        go_simp
        first | done | rfl
      simp only [Act.put, nm1, nm2, nm3, i64_w]
      refine wpK_ops rfl (fun w1 hu => ?_) ?_
      · clear hu
        go_simp
        first | done | rfl
      simp only [Act.put, nm1, nm2, nm3, i64_w]
      refine wpK_ops rfl (fun w1 hu => ?_) ?_
      · exact quiet_index eI (T := 2) rfl (by kernel_rfl) (by kernel_rfl) rfl rfl rfl hat33.out A29.out
      simp only [Act.put, nm1, nm2, nm3, i64_w]
      refine wpK_ops rfl (fun w1 hu => ?_) ?_
      · have cl0 := he31.out 0 _ rfl
        rw [addr_add0] at cl0
        replace cl0 := (((Up.refl _).drew.trans hu)).kept cl0
        go_simp
        first | done | rfl
      simp only [Act.put, nm1, nm2, nm3, i64_w]
      refine wpK_ops rfl (fun w1 hu => ?_) ?_
      · clear hu
        go_simp
        first | done | rfl
      simp only [Act.put, nm1, nm2, nm3, i64_w]
      refine wpK_nil ?_
      intro w34 hu hap
      simp only [List.drop_succ_cons, List.drop_zero]
      replace hu := (Up.refl _).drew.trans hu
      clear hap
      have hu35 := Aside0.mk hu
      clear hu
      refine wpList_nil ?_
      (try simp only [Exit.then, Exit.inBlock, ↓reduceIte, Nat.reduceEqDiff])
      refine hK21 _ _ ?_
      refine wp_cond_false rfl ?_
      refine wp_skip ?_
      (try simp only [Exit.then, Exit.inBlock, ↓reduceIte, Nat.reduceEqDiff])
      refine hK20 _ _ ?_
      refine wp_region_lit ?_
      refine wpList_plain rfl (fun Ko hKo => ?_)
      go_simp
      refine hKo _ _ ?_
      clear hKo Ko
      try simp only [Act.put, nm1, nm2, nm3, i64_w]
      refine wpList_plain rfl (fun Ko hKo => ?_)
      go_simp
      refine hKo _ _ ?_
      clear hKo Ko
      try simp only [Act.put, nm1, nm2, nm3, i64_w]
      refine wpList_plain rfl (fun Ko hKo => ?_)
      go_simp
      refine hKo _ _ ?_
      clear hKo Ko
      try simp only [Act.put, nm1, nm2, nm3, i64_w]
      refine wpList_nil ?_
      (try simp only [Exit.then, Exit.inBlock, ↓reduceIte, Nat.reduceEqDiff])
      refine hK16 _ _ ?_
      go_roundg k12
      case measure => exact Nat.lt_succ_self _
      case rel => exact ⟨wrap64 (x7 + 1), (by first | rfl | simp), HL37, ⟨by have := hk13.out; omega⟩, ⟨(hu9.out.trans hu35.out)⟩, ⟨(Nat.le_trans ((Nat.le_trans (Nat.le_refl _) hz10.out)) hu35.out.size)⟩⟩
    ·
     rw [if_neg c36] at H
     replace c36 := Bool.eq_false_iff.mpr c36
     have c36n : (t22 != t28) = true := by rw [bne, c36]; rfl
     have c36p : ¬ t22 = t28 := fun e => by simp [e] at c36
     obtain rfl := Option.some.inj H
     refine wp_seq_k (fun K17 hK17 => ?_)
     refine wp_seq_k (fun K18 hK18 => ?_)
     refine wp_region_lit ?_
     refine wpList_plain rfl (fun Ko hKo => ?_)
     go_simp
     refine hKo _ _ ?_
     clear hKo Ko
     try simp only [Act.put, nm1, nm2, nm3, i64_w]
     refine wpList_plain rfl (fun Ko hKo => ?_)
     go_simp
     refine hKo _ _ ?_
     clear hKo Ko
     try simp only [Act.put, nm1, nm2, nm3, i64_w]
     refine wpList_plain rfl (fun Ko hKo => ?_)
     go_simp
     refine hKo _ _ ?_
     clear hKo Ko
     try simp only [Act.put, nm1, nm2, nm3, i64_w]
     refine wpList_plain rfl (fun Ko hKo => ?_)
     go_simp
     refine hKo _ _ ?_
     clear hKo Ko
     try simp only [Act.put, nm1, nm2, nm3, i64_w]
     refine wpList_nil ?_
     (try simp only [Exit.then, Exit.inBlock, ↓reduceIte, Nat.reduceEqDiff])
     refine hK18 _ _ ?_
     refine wp_cond_true rfl ?_
     refine wp_skip ?_
     (try simp only [Exit.then, Exit.inBlock, ↓reduceIte, Nat.reduceEqDiff])
     refine hK17 _ _ ?_
     refine wp_seq_k (fun K20 hK20 => ?_)
     refine wp_block ?_
     refine wp_seq_k (fun K21 hK21 => ?_)
     obtain ⟨ad24, hat, he⟩ := rd_at (ha0.up hu9.out) A23.out
     have he25 := Aside0.mk he
     have hat27 := Aside0.mk hat
     clear he hat
     obtain ⟨ad30, hat, he⟩ := rd_at (ha1.up hu9.out) A29.out
     have he31 := Aside0.mk he
     have hat33 := Aside0.mk hat
     clear he hat
     refine' wp_region_up 9 [Slot.det _, Slot.det _, Slot.det (.pointer (some ad24)), Slot.det _, Slot.det _, Slot.det _, Slot.det (.pointer (some ad30)), Slot.det _, Slot.det _] (by kernel_rfl) (by kernel_rfl) ?main
     case main =>
      simp only [List.take_succ_cons, List.take_zero]
      refine wpK_ops rfl (fun w1 hu => ?_) ?_
      · clear hu
        go_simp
        first | done | rfl
      simp only [Act.put, nm1, nm2, nm3, i64_w]
      refine wpK_ops rfl (fun w1 hu => ?_) ?_
      · clear hu
        go_simp
        first | done | rfl
      simp only [Act.put, nm1, nm2, nm3, i64_w]
      refine wpK_ops rfl (fun w1 hu => ?_) ?_
      · exact quiet_index eI (T := 2) rfl (by kernel_rfl) (by kernel_rfl) rfl rfl rfl hat27.out A23.out
      simp only [Act.put, nm1, nm2, nm3, i64_w]
      refine wpK_ops rfl (fun w1 hu => ?_) ?_
      · have cl0 := he25.out 0 _ rfl
        rw [addr_add0] at cl0
        replace cl0 := (((Up.refl _).drew.trans hu)).kept cl0
        go_simp
        first | done | rfl
      simp only [Act.put, nm1, nm2, nm3, i64_w]
      refine wpK_ops rfl (fun w1 hu => ?_) ?_
      · clear hu
        go_simp
        first | done | rfl
      simp only [Act.put, nm1, nm2, nm3, i64_w]
      refine wpK_ops rfl (fun w1 hu => ?_) ?_
      · clear hu
        go_simp
        first | done | rfl
      simp only [Act.put, nm1, nm2, nm3, i64_w]
      refine wpK_ops rfl (fun w1 hu => ?_) ?_
      · exact quiet_index eI (T := 2) rfl (by kernel_rfl) (by kernel_rfl) rfl rfl rfl hat33.out A29.out
      simp only [Act.put, nm1, nm2, nm3, i64_w]
      refine wpK_ops rfl (fun w1 hu => ?_) ?_
      · have cl0 := he31.out 0 _ rfl
        rw [addr_add0] at cl0
        replace cl0 := (((Up.refl _).drew.trans hu)).kept cl0
        go_simp
        first | done | rfl
      simp only [Act.put, nm1, nm2, nm3, i64_w]
      refine wpK_ops rfl (fun w1 hu => ?_) ?_
      · clear hu
        go_simp
        first | done | rfl
      simp only [Act.put, nm1, nm2, nm3, i64_w]
      refine wpK_nil ?_
      intro w34 hu hap
      simp only [List.drop_succ_cons, List.drop_zero]
      replace hu := (Up.refl _).drew.trans hu
      clear hap
      have hu35 := Aside0.mk hu
      clear hu
      refine wpList_nil ?_
      (try simp only [Exit.then, Exit.inBlock, ↓reduceIte, Nat.reduceEqDiff])
      refine hK21 _ _ ?_
      refine wp_cond_true rfl ?_
      refine wp_seq_k (fun K38 hK38 => ?_)
      refine wp_region_lit ?_
      refine wpList_plain rfl (fun Ko hKo => ?_)
      go_simp
      refine hKo _ _ ?_
      clear hKo Ko
      try simp only [Act.put, nm1, nm2, nm3, i64_w]
      refine wpList_nil ?_
      (try simp only [Exit.then, Exit.inBlock, ↓reduceIte, Nat.reduceEqDiff])
      refine hK38 _ _ ?_
      refine wp_ret ?_
      (try simp only [Exit.then, Exit.inBlock, ↓reduceIte, Nat.reduceEqDiff])
      refine hQf _ _ _ ?_
      exact bodyPost_ret (v := .bool false) (by first | rfl | (simp [results, Try.results27, go_sem]; done) | (simp [results, Try.results27, go_sem]; rfl)) rfl ⟨rfl, (hu9.out.trans hu35.out)⟩
   ·
    rw [if_neg c19] at H
    replace c19 := Bool.eq_false_iff.mpr c19
    obtain rfl := Option.some.inj H
    refine wp_seq_k (fun K17 hK17 => ?_)
    refine wp_seq_k (fun K18 hK18 => ?_)
    refine wp_region_lit ?_
    refine wpList_plain rfl (fun Ko hKo => ?_)
    go_simp
    refine hKo _ _ ?_
    clear hKo Ko
    try simp only [Act.put, nm1, nm2, nm3, i64_w]
    refine wpList_plain rfl (fun Ko hKo => ?_)
    go_simp
    refine hKo _ _ ?_
    clear hKo Ko
    try simp only [Act.put, nm1, nm2, nm3, i64_w]
    refine wpList_plain rfl (fun Ko hKo => ?_)
    go_simp
    refine hKo _ _ ?_
    clear hKo Ko
    try simp only [Act.put, nm1, nm2, nm3, i64_w]
    refine wpList_plain rfl (fun Ko hKo => ?_)
    go_simp
    refine hKo _ _ ?_
    clear hKo Ko
    try simp only [Act.put, nm1, nm2, nm3, i64_w]
    refine wpList_nil ?_
    (try simp only [Exit.then, Exit.inBlock, ↓reduceIte, Nat.reduceEqDiff])
    refine hK18 _ _ ?_
    refine wp_cond_false rfl ?_
    refine wp_exit ?_
    (try simp only [Exit.then, Exit.inBlock, ↓reduceIte, Nat.reduceEqDiff])
    refine hK5 _ _ ?_
    refine wp_seq_k (fun K39 hK39 => ?_)
    refine wp_region_lit ?_
    refine wpList_plain rfl (fun Ko hKo => ?_)
    go_simp
    refine hKo _ _ ?_
    clear hKo Ko
    try simp only [Act.put, nm1, nm2, nm3, i64_w]
    refine wpList_nil ?_
    (try simp only [Exit.then, Exit.inBlock, ↓reduceIte, Nat.reduceEqDiff])
    refine hK39 _ _ ?_
    refine wp_ret ?_
    (try simp only [Exit.then, Exit.inBlock, ↓reduceIte, Nat.reduceEqDiff])
    refine hQf _ _ _ ?_
    exact bodyPost_ret (v := .bool true) (by first | rfl | (simp [results, Try.results27, go_sem]; done) | (simp [results, Try.results27, go_sem]; rfl)) rfl ⟨rfl, hu9.out⟩
 ·
  rw [if_neg c4] at H
  replace c4 := Bool.eq_false_iff.mpr c4
  have c4n : ((a0.length : Int) != (a1.length : Int)) = true := by rw [bne, c4]; rfl
  have c4p : ¬ (a0.length : Int) = (a1.length : Int) := fun e => by simp [e] at c4
  obtain rfl := Option.some.inj H
  go_enter Try.func27, Try.ntmps27
  refine wp_hide (fun Qf hQf => ?_)
  refine wp_seq_k (fun K1 hK1 => ?_)
  refine wp_region_lit ?_
  refine wpList_plain rfl (fun Ko hKo => ?_)
  go_simp
  refine hKo _ _ ?_
  clear hKo Ko
  try simp only [Act.put, nm1, nm2, nm3, i64_w]
  refine wpList_nil ?_
  (try simp only [Exit.then, Exit.inBlock, ↓reduceIte, Nat.reduceEqDiff])
  refine hK1 _ _ ?_
  refine wp_seq_k (fun K2 hK2 => ?_)
  refine wp_seq_k (fun K3 hK3 => ?_)
  refine wp_region_lit ?_
  refine wpList_plain rfl (fun Ko hKo => ?_)
  go_simp
  refine hKo _ _ ?_
  clear hKo Ko
  try simp only [Act.put, nm1, nm2, nm3, i64_w]
  refine wpList_plain rfl (fun Ko hKo => ?_)
  go_simp
  refine hKo _ _ ?_
  clear hKo Ko
  try simp only [Act.put, nm1, nm2, nm3, i64_w]
  refine wpList_plain rfl (fun Ko hKo => ?_)
  go_simp
  refine hKo _ _ ?_
  clear hKo Ko
  try simp only [Act.put, nm1, nm2, nm3, i64_w]
  refine wpList_plain rfl (fun Ko hKo => ?_)
  go_simp
  refine hKo _ _ ?_
  clear hKo Ko
  try simp only [Act.put, nm1, nm2, nm3, i64_w]
  refine wpList_plain rfl (fun Ko hKo => ?_)
  go_simp
  refine hKo _ _ ?_
  clear hKo Ko
  try simp only [Act.put, nm1, nm2, nm3, i64_w]
  refine wpList_nil ?_
  (try simp only [Exit.then, Exit.inBlock, ↓reduceIte, Nat.reduceEqDiff])
  refine hK3 _ _ ?_
  refine wp_cond_true rfl ?_
  refine wp_seq_k (fun K40 hK40 => ?_)
  refine wp_region_lit ?_
  refine wpList_plain rfl (fun Ko hKo => ?_)
  go_simp
  refine hKo _ _ ?_
  clear hKo Ko
  try simp only [Act.put, nm1, nm2, nm3, i64_w]
  refine wpList_nil ?_
  (try simp only [Exit.then, Exit.inBlock, ↓reduceIte, Nat.reduceEqDiff])
  refine hK40 _ _ ?_
  refine wp_ret ?_
  (try simp only [Exit.then, Exit.inBlock, ↓reduceIte, Nat.reduceEqDiff])
  refine hQf _ _ _ ?_
  exact bodyPost_ret (v := .bool false) (by first | rfl | (simp [results, Try.results27, go_sem]; done) | (simp [results, Try.results27, go_sem]; rfl)) rfl ⟨rfl, (Up.refl _)⟩

set_option maxHeartbeats 4000000 in
set_option maxRecDepth 100000 in
theorem laws_markInt64S.calls (K : Nat) (a0_A : Option Addr) (a0_c : Nat) (a0_B : Nat) (a0 : List (Int)) (a1 : Int) (r0 : Int) (r1 : List (Int)) (w : World) (ha0 : Own eI 2 w a0_B (.slice a0_A a0.length a0_c) a0) (h : laws_markInt64S.f K a0 a1 = some (r0, r1)) :
    Calls Try.prog 28 #[.slice a0_A a0.length a0_c, .int .i64 a1] w fun e w' => e = .returned (.int .i64 r0) ∧ Own eI 2 w' a0_B (.slice a0_A r1.length a0_c) r1 ∧ Aside0 (a0.length = r1.length) ∧ Grow (.slice a0_A a0.length a0_c) w w' := by
 have H : ((laws_markInt64S.l0 K a0 K a1 0 a0) : Option (Int × List (Int))) = some (r0, r1) := h
 clear h
 go_enter Try.func28, Try.ntmps28
 refine wp_hide (fun Qf hQf => ?_)
 refine wp_seq_k (fun K1 hK1 => ?_)
 refine wp_region_lit ?_
 refine wpList_plain rfl (fun Ko hKo => ?_)
 go_simp
 refine hKo _ _ ?_
 clear hKo Ko
 try simp only [Act.put, nm1, nm2, nm3, i64_w]
 refine wpList_nil ?_
 (try simp only [Exit.then, Exit.inBlock, ↓reduceIte, Nat.reduceEqDiff])
 refine hK1 _ _ ?_
 refine wp_seq_k (fun K2 hK2 => ?_)
 refine wp_seq_k (fun K3 hK3 => ?_)
 refine wp_region_lit ?_
 refine wpList_plain rfl (fun Ko hKo => ?_)
 go_simp
 refine hKo _ _ ?_
 clear hKo Ko
 try simp only [Act.put, nm1, nm2, nm3, i64_w]
 refine wpList_nil ?_
 (try simp only [Exit.then, Exit.inBlock, ↓reduceIte, Nat.reduceEqDiff])
 refine hK3 _ _ ?_
 refine wp_block ?_
 have HL10 := Aside0.mk H
 clear H
 go_loopg [1, 5] K (fun kq v1 v5 w' => ∃ (x4 : Int) (x5 : Int) (x6 : List (Int)), v1 = .int .i64 x4 ∧ v5 = .int .i64 x5 ∧ Aside0 (laws_markInt64S.l0 K a0 kq x4 x5 x6 = some (r0, r1)) ∧ Aside0 (kq ≤ K) ∧ Aside0 (Grow (.slice a0_A a0.length a0_c) w w') ∧ Aside0 (w.heap.size ≤ w'.heap.size) ∧ Own eI 2 w' a0_B (.slice a0_A x6.length a0_c) x6 ∧ Aside0 (a0.length = x6.length))
 case atStart => exact ⟨a1, 0, a0, (by first | rfl | simp), (by first | rfl | simp), HL10, ⟨Nat.le_refl _⟩, ⟨(Grow.refl (.slice a0_A a0.length a0_c) _)⟩, ⟨Nat.le_refl _⟩, ha0, ⟨rfl⟩⟩
 case round =>
  rename_i J16 K17 hJ16 hK17
  obtain ⟨x4, x5, x6, rfl, rfl, HL15, hk14, hu8, hz9, h11, hl12⟩ := hrel
  obtain ⟨w7, rfl⟩ : ∃ wo : World, wo = wr := ⟨_, rfl⟩
  obtain ⟨k13, rfl⟩ | rfl : (∃ k, gk = k + 1) ∨ gk = 0 := by rcases gk with _ | k; exact .inr rfl; exact .inl ⟨k, rfl⟩
  case inr => exact absurd HL15.out (by simp [laws_markInt64S.l0])
  have H := HL15.out
  clear HL15
  rw [laws_markInt64S.l0] at H
  by_cases c20 : (decide (x5 < (a0.length : Int))) = true
  ·
   rw [if_pos c20] at H
   replace H := Option.bind_eq_some_iff.mp H
   obtain ⟨t23, A24, H⟩ := H
   replace A24 := Aside0.mk A24
   try dsimp only at H
   have HL34 := Aside0.mk H
   clear H
   refine wp_seq_k (fun K18 hK18 => ?_)
   refine wp_seq_k (fun K19 hK19 => ?_)
   refine wp_region_lit ?_
   refine wpList_plain rfl (fun Ko hKo => ?_)
   go_simp
   refine hKo _ _ ?_
   clear hKo Ko
   try simp only [Act.put, nm1, nm2, nm3, i64_w]
   refine wpList_plain rfl (fun Ko hKo => ?_)
   go_simp
   refine hKo _ _ ?_
   clear hKo Ko
   try simp only [Act.put, nm1, nm2, nm3, i64_w]
   refine wpList_plain rfl (fun Ko hKo => ?_)
   go_simp
   refine hKo _ _ ?_
   clear hKo Ko
   try simp only [Act.put, nm1, nm2, nm3, i64_w]
   refine wpList_plain rfl (fun Ko hKo => ?_)
   go_simp
   refine hKo _ _ ?_
   clear hKo Ko
   try simp only [Act.put, nm1, nm2, nm3, i64_w]
   refine wpList_nil ?_
   (try simp only [Exit.then, Exit.inBlock, ↓reduceIte, Nat.reduceEqDiff])
   refine hK19 _ _ ?_
   refine wp_cond_true rfl ?_
   refine wp_skip ?_
   (try simp only [Exit.then, Exit.inBlock, ↓reduceIte, Nat.reduceEqDiff])
   refine hK18 _ _ ?_
   refine wp_seq_k (fun K21 hK21 => ?_)
   refine wp_block ?_
   refine wp_seq_k (fun K22 hK22 => ?_)
   refine wp_region_lit ?_
   refine wpList_plain rfl (fun Ko hKo => ?_)
   go_simp
   refine hKo _ _ ?_
   clear hKo Ko
   try simp only [Act.put, nm1, nm2, nm3, i64_w]
   refine wpList_plain rfl (fun Ko hKo => ?_)
   go_simp
   refine hKo _ _ ?_
   clear hKo Ko
   try simp only [Act.put, nm1, nm2, nm3, i64_w]
   refine wpList_plain rfl (fun Ko hKo => ?_)
   go_simp
   refine hKo _ _ ?_
   clear hKo Ko
   try simp only [Act.put, nm1, nm2, nm3, i64_w]
   refine step_index eI (T := 2) (wanted_none rfl) rfl (by kernel_rfl) (by kernel_rfl) rfl hl12.out rfl h11.rd A24.out ?_
   intro ad25 hat he
   have he26 := Aside0.mk he
   have hat27 := Aside0.mk hat
   clear he hat
   simp only [Act.put, nm1, nm2, nm3, i64_w]
   have hO0 := Aside0.mk h11
   have lb32 := Aside0.mk hO0.out.lt
   refine step_put eI (T := 2) (u := .int .i64 x4) (old := t23) (new := x4) 0 rfl rfl rfl hat27.out (addr_add0 _).symm rfl rfl (by kernel_rfl) (by simp [Value.cells, Value.oneCell']) (Nat.le_of_ble_eq_true rfl) rfl hO0.out A24.out ?_
   intro w28 h30 hg
   have hg31 := Aside0.mk hg
   clear hO0 hg
   try simp only [Act.put, nm1, nm2, nm3, i64_w]
   have hl33 : Aside0 (a0.length = (x6.set (x5).toNat x4).length) := Aside0.mk (hl12.out.trans (List.length_set ..).symm)
   refine wpList_nil ?_
   (try simp only [Exit.then, Exit.inBlock, ↓reduceIte, Nat.reduceEqDiff])
   refine hK22 _ _ ?_
   refine wp_region_lit ?_
   refine wpList_plain rfl (fun Ko hKo => ?_)
   go_simp
   refine hKo _ _ ?_
   clear hKo Ko
   try simp only [Act.put, nm1, nm2, nm3, i64_w]
   refine wpList_plain rfl (fun Ko hKo => ?_)
   go_simp
   refine hKo _ _ ?_
   clear hKo Ko
   try simp only [Act.put, nm1, nm2, nm3, i64_w]
   refine wpList_plain rfl (fun Ko hKo => ?_)
   go_simp
   refine hKo _ _ ?_
   clear hKo Ko
   try simp only [Act.put, nm1, nm2, nm3, i64_w]
   refine wpList_nil ?_
   (try simp only [Exit.then, Exit.inBlock, ↓reduceIte, Nat.reduceEqDiff])
   refine hK21 _ _ ?_
   refine wp_region_lit ?_
   refine wpList_plain rfl (fun Ko hKo => ?_)
   go_simp
   refine hKo _ _ ?_
   clear hKo Ko
   try simp only [Act.put, nm1, nm2, nm3, i64_w]
   refine wpList_plain rfl (fun Ko hKo => ?_)
   go_simp
   refine hKo _ _ ?_
   clear hKo Ko
   try simp only [Act.put, nm1, nm2, nm3, i64_w]
   refine wpList_plain rfl (fun Ko hKo => ?_)
   go_simp
   refine hKo _ _ ?_
   clear hKo Ko
   try simp only [Act.put, nm1, nm2, nm3, i64_w]
   refine wpList_nil ?_
   (try simp only [Exit.then, Exit.inBlock, ↓reduceIte, Nat.reduceEqDiff])
   refine hK17 _ _ ?_
   go_roundg k13
   case measure => exact Nat.lt_succ_self _
   case rel => exact ⟨wrap64 (x4 + 1), wrap64 (x5 + 1), (x6.set (x5).toNat x4), (by first | rfl | simp), (by first | rfl | simp), HL34, ⟨by have := hk14.out; omega⟩, ⟨(hu8.out.trans (Grow.same hg31.out))⟩, ⟨(Nat.le_trans ((Nat.le_trans (Nat.le_refl _) hz9.out)) hg31.out.size)⟩, h30, ⟨hl33.out⟩⟩
  ·
   rw [if_neg c20] at H
   replace c20 := Bool.eq_false_iff.mpr c20
   simp only [Option.some.injEq, Prod.mk.injEq] at H
   obtain ⟨rfl, rfl⟩ := H
   refine wp_seq_k (fun K18 hK18 => ?_)
   refine wp_seq_k (fun K19 hK19 => ?_)
   refine wp_region_lit ?_
   refine wpList_plain rfl (fun Ko hKo => ?_)
   go_simp
   refine hKo _ _ ?_
   clear hKo Ko
   try simp only [Act.put, nm1, nm2, nm3, i64_w]
   refine wpList_plain rfl (fun Ko hKo => ?_)
   go_simp
   refine hKo _ _ ?_
   clear hKo Ko
   try simp only [Act.put, nm1, nm2, nm3, i64_w]
   refine wpList_plain rfl (fun Ko hKo => ?_)
   go_simp
   refine hKo _ _ ?_
   clear hKo Ko
   try simp only [Act.put, nm1, nm2, nm3, i64_w]
   refine wpList_plain rfl (fun Ko hKo => ?_)
   go_simp
   refine hKo _ _ ?_
   clear hKo Ko
   try simp only [Act.put, nm1, nm2, nm3, i64_w]
   refine wpList_nil ?_
   (try simp only [Exit.then, Exit.inBlock, ↓reduceIte, Nat.reduceEqDiff])
   refine hK19 _ _ ?_
   refine wp_cond_false rfl ?_
   refine wp_exit ?_
   (try simp only [Exit.then, Exit.inBlock, ↓reduceIte, Nat.reduceEqDiff])
   refine hK2 _ _ ?_
   refine wp_seq_k (fun K35 hK35 => ?_)
   refine wp_region_lit ?_
   refine wpList_plain rfl (fun Ko hKo => ?_)
   go_simp
   refine hKo _ _ ?_
   clear hKo Ko
   try simp only [Act.put, nm1, nm2, nm3, i64_w]
   refine wpList_plain rfl (fun Ko hKo => ?_)
   go_simp
   refine hKo _ _ ?_
   clear hKo Ko
   try simp only [Act.put, nm1, nm2, nm3, i64_w]
   refine wpList_nil ?_
   (try simp only [Exit.then, Exit.inBlock, ↓reduceIte, Nat.reduceEqDiff])
   refine hK35 _ _ ?_
   refine wp_ret ?_
   (try simp only [Exit.then, Exit.inBlock, ↓reduceIte, Nat.reduceEqDiff])
   refine hQf _ _ _ ?_
   exact bodyPost_ret (v := .int .i64 x4) (by first | rfl | (simp [results, Try.results28, go_sem]; done) | (simp [results, Try.results28, go_sem]; rfl)) rfl ⟨rfl, h11, ⟨hl12.out⟩, hu8.out⟩

set_option maxHeartbeats 4000000 in
set_option maxRecDepth 100000 in
theorem laws_heldInt64S.calls (K : Nat) (a0_A : Option Addr) (a0_c : Nat) (a0 : List (Int)) (a1 : Int) (r0 : Int) (w : World) (ha0 : Rd eI w a0_A a0) (h : laws_heldInt64S.f K a0 a1 = some (r0)) :
    Calls Try.prog 29 #[.slice a0_A a0.length a0_c, .int .i64 a1] w fun e w' => e = .returned (.int .i64 r0) ∧ Up w w' := by
 have H : ((laws_heldInt64S.l0 K a0 K a1 0) : Option (Int)) = some (r0) := h
 clear h
 go_enter Try.func29, Try.ntmps29
 refine wp_hide (fun Qf hQf => ?_)
 refine wp_seq_k (fun K1 hK1 => ?_)
 refine wp_region_lit ?_
 refine wpList_plain rfl (fun Ko hKo => ?_)
 go_simp
 refine hKo _ _ ?_
 clear hKo Ko
 try simp only [Act.put, nm1, nm2, nm3, i64_w]
 refine wpList_nil ?_
 (try simp only [Exit.then, Exit.inBlock, ↓reduceIte, Nat.reduceEqDiff])
 refine hK1 _ _ ?_
 refine wp_seq_k (fun K2 hK2 => ?_)
 refine wp_seq_k (fun K3 hK3 => ?_)
 refine wp_region_lit ?_
 refine wpList_plain rfl (fun Ko hKo => ?_)
 go_simp
 refine hKo _ _ ?_
 clear hKo Ko
 try simp only [Act.put, nm1, nm2, nm3, i64_w]
 refine wpList_nil ?_
 (try simp only [Exit.then, Exit.inBlock, ↓reduceIte, Nat.reduceEqDiff])
 refine hK3 _ _ ?_
 refine wp_block ?_
 have HL9 := Aside0.mk H
 clear H
 go_loopg [1, 5] K (fun kq v1 v5 w' => ∃ (x4 : Int) (x5 : Int), v1 = .int .i64 x4 ∧ v5 = .int .i64 x5 ∧ Aside0 (laws_heldInt64S.l0 K a0 kq x4 x5 = some (r0)) ∧ Aside0 (kq ≤ K) ∧ Aside0 (Up w w') ∧ Aside0 (w.heap.size ≤ w'.heap.size))
 case atStart => exact ⟨a1, 0, (by first | rfl | simp), (by first | rfl | simp), HL9, ⟨Nat.le_refl _⟩, ⟨(Up.refl _)⟩, ⟨Nat.le_refl _⟩⟩
 case round =>
  rename_i J13 K14 hJ13 hK14
  obtain ⟨x4, x5, rfl, rfl, HL12, hk11, hu7, hz8⟩ := hrel
  obtain ⟨w6, rfl⟩ : ∃ wo : World, wo = wr := ⟨_, rfl⟩
  obtain ⟨k10, rfl⟩ | rfl : (∃ k, gk = k + 1) ∨ gk = 0 := by rcases gk with _ | k; exact .inr rfl; exact .inl ⟨k, rfl⟩
  case inr => exact absurd HL12.out (by simp [laws_heldInt64S.l0])
  have H := HL12.out
  clear HL12
  rw [laws_heldInt64S.l0] at H
  by_cases c17 : (decide (x5 < (a0.length : Int))) = true
  ·
   rw [if_pos c17] at H
   replace H := Option.bind_eq_some_iff.mp H
   obtain ⟨t21, A22, H⟩ := H
   replace A22 := Aside0.mk A22
   try dsimp only at H
   by_cases c26 : (t21 == x4) = true
   ·
    rw [if_pos c26] at H
    have c26n : (t21 != x4) = false := by rw [bne, c26]; rfl
    have HL27 := Aside0.mk H
    clear H
    refine wp_seq_k (fun K15 hK15 => ?_)
    refine wp_seq_k (fun K16 hK16 => ?_)
    refine wp_region_lit ?_
    refine wpList_plain rfl (fun Ko hKo => ?_)
    go_simp
    refine hKo _ _ ?_
    clear hKo Ko
    try simp only [Act.put, nm1, nm2, nm3, i64_w]
    refine wpList_plain rfl (fun Ko hKo => ?_)
    go_simp
    refine hKo _ _ ?_
    clear hKo Ko
    try simp only [Act.put, nm1, nm2, nm3, i64_w]
    refine wpList_plain rfl (fun Ko hKo => ?_)
    go_simp
    refine hKo _ _ ?_
    clear hKo Ko
    try simp only [Act.put, nm1, nm2, nm3, i64_w]
    refine wpList_plain rfl (fun Ko hKo => ?_)
    go_simp
    refine hKo _ _ ?_
    clear hKo Ko
    try simp only [Act.put, nm1, nm2, nm3, i64_w]
    refine wpList_nil ?_
    (try simp only [Exit.then, Exit.inBlock, ↓reduceIte, Nat.reduceEqDiff])
    refine hK16 _ _ ?_
    refine wp_cond_true rfl ?_
    refine wp_skip ?_
    (try simp only [Exit.then, Exit.inBlock, ↓reduceIte, Nat.reduceEqDiff])
    refine hK15 _ _ ?_
    refine wp_seq_k (fun K18 hK18 => ?_)
    refine wp_block ?_
    refine wp_seq_k (fun K19 hK19 => ?_)
    refine wp_seq_k (fun K20 hK20 => ?_)
    refine wp_region_lit ?_
    refine wpList_plain rfl (fun Ko hKo => ?_)
    go_simp
    refine hKo _ _ ?_
    clear hKo Ko
    try simp only [Act.put, nm1, nm2, nm3, i64_w]
    refine wpList_plain rfl (fun Ko hKo => ?_)
    go_simp
    refine hKo _ _ ?_
    clear hKo Ko
    try simp only [Act.put, nm1, nm2, nm3, i64_w]
    refine step_index eI (T := 2) (wanted_none rfl) rfl (by kernel_rfl) (by kernel_rfl) rfl rfl rfl (ha0.up hu7.out) A22.out ?_
    intro ad23 hat he
    have he24 := Aside0.mk he
    have hat25 := Aside0.mk hat
    clear he hat
    simp only [Act.put, nm1, nm2, nm3, i64_w]
    have cl0 := he24.out 0 _ rfl
    rw [addr_add0] at cl0
    refine wpList_plain rfl (fun Ko hKo => ?_)
    go_simp
    refine hKo _ _ ?_
    clear hKo Ko
    clear cl0
    try simp only [Act.put, nm1, nm2, nm3, i64_w]
    refine wpList_plain rfl (fun Ko hKo => ?_)
    go_simp
    refine hKo _ _ ?_
    clear hKo Ko
    try simp only [Act.put, nm1, nm2, nm3, i64_w]
    refine wpList_plain rfl (fun Ko hKo => ?_)
    go_simp
    refine hKo _ _ ?_
    clear hKo Ko
    try simp only [Act.put, nm1, nm2, nm3, i64_w]
    refine wpList_nil ?_
    (try simp only [Exit.then, Exit.inBlock, ↓reduceIte, Nat.reduceEqDiff])
    refine hK20 _ _ ?_
    refine wp_cond_false rfl ?_
    refine wp_skip ?_
    (try simp only [Exit.then, Exit.inBlock, ↓reduceIte, Nat.reduceEqDiff])
    refine hK19 _ _ ?_
    refine wp_region_lit ?_
    refine wpList_plain rfl (fun Ko hKo => ?_)
    go_simp
    refine hKo _ _ ?_
    clear hKo Ko
    try simp only [Act.put, nm1, nm2, nm3, i64_w]
    refine wpList_plain rfl (fun Ko hKo => ?_)
    go_simp
    refine hKo _ _ ?_
    clear hKo Ko
    try simp only [Act.put, nm1, nm2, nm3, i64_w]
    refine wpList_plain rfl (fun Ko hKo => ?_)
    go_simp
    refine hKo _ _ ?_
    clear hKo Ko
    try simp only [Act.put, nm1, nm2, nm3, i64_w]
    refine wpList_nil ?_
    (try simp only [Exit.then, Exit.inBlock, ↓reduceIte, Nat.reduceEqDiff])
    refine hK18 _ _ ?_
    refine wp_region_lit ?_
    refine wpList_plain rfl (fun Ko hKo => ?_)
    go_simp
    refine hKo _ _ ?_
    clear hKo Ko
    try simp only [Act.put, nm1, nm2, nm3, i64_w]
    refine wpList_plain rfl (fun Ko hKo => ?_)
    go_simp
    refine hKo _ _ ?_
    clear hKo Ko
    try simp only [Act.put, nm1, nm2, nm3, i64_w]
    refine wpList_plain rfl (fun Ko hKo => ?_)
    go_simp
    refine hKo _ _ ?_
    clear hKo Ko
    try simp only [Act.put, nm1, nm2, nm3, i64_w]
    refine wpList_nil ?_
    (try simp only [Exit.then, Exit.inBlock, ↓reduceIte, Nat.reduceEqDiff])
    refine hK14 _ _ ?_
    go_roundg k10
    case measure => exact Nat.lt_succ_self _
    case rel => exact ⟨wrap64 (x4 + 1), wrap64 (x5 + 1), (by first | rfl | simp), (by first | rfl | simp), HL27, ⟨by have := hk11.out; omega⟩, ⟨hu7.out⟩, ⟨(Nat.le_trans (Nat.le_refl _) hz8.out)⟩⟩
   ·
    rw [if_neg c26] at H
    replace c26 := Bool.eq_false_iff.mpr c26
    have c26n : (t21 != x4) = true := by rw [bne, c26]; rfl
    have c26p : ¬ t21 = x4 := fun e => by simp [e] at c26
    obtain rfl := Option.some.inj H
    refine wp_seq_k (fun K15 hK15 => ?_)
    refine wp_seq_k (fun K16 hK16 => ?_)
    refine wp_region_lit ?_
    refine wpList_plain rfl (fun Ko hKo => ?_)
    go_simp
    refine hKo _ _ ?_
    clear hKo Ko
    try simp only [Act.put, nm1, nm2, nm3, i64_w]
    refine wpList_plain rfl (fun Ko hKo => ?_)
    go_simp
    refine hKo _ _ ?_
    clear hKo Ko
    try simp only [Act.put, nm1, nm2, nm3, i64_w]
    refine wpList_plain rfl (fun Ko hKo => ?_)
    go_simp
    refine hKo _ _ ?_
    clear hKo Ko
    try simp only [Act.put, nm1, nm2, nm3, i64_w]
    refine wpList_plain rfl (fun Ko hKo => ?_)
    go_simp
    refine hKo _ _ ?_
    clear hKo Ko
    try simp only [Act.put, nm1, nm2, nm3, i64_w]
    refine wpList_nil ?_
    (try simp only [Exit.then, Exit.inBlock, ↓reduceIte, Nat.reduceEqDiff])
    refine hK16 _ _ ?_
    refine wp_cond_true rfl ?_
    refine wp_skip ?_
    (try simp only [Exit.then, Exit.inBlock, ↓reduceIte, Nat.reduceEqDiff])
    refine hK15 _ _ ?_
    refine wp_seq_k (fun K18 hK18 => ?_)
    refine wp_block ?_
    refine wp_seq_k (fun K19 hK19 => ?_)
    refine wp_seq_k (fun K20 hK20 => ?_)
    refine wp_region_lit ?_
    refine wpList_plain rfl (fun Ko hKo => ?_)
    go_simp
    refine hKo _ _ ?_
    clear hKo Ko
    try simp only [Act.put, nm1, nm2, nm3, i64_w]
    refine wpList_plain rfl (fun Ko hKo => ?_)
    go_simp
    refine hKo _ _ ?_
    clear hKo Ko
    try simp only [Act.put, nm1, nm2, nm3, i64_w]
    refine step_index eI (T := 2) (wanted_none rfl) rfl (by kernel_rfl) (by kernel_rfl) rfl rfl rfl (ha0.up hu7.out) A22.out ?_
    intro ad23 hat he
    have he24 := Aside0.mk he
    have hat25 := Aside0.mk hat
    clear he hat
    simp only [Act.put, nm1, nm2, nm3, i64_w]
    have cl0 := he24.out 0 _ rfl
    rw [addr_add0] at cl0
    refine wpList_plain rfl (fun Ko hKo => ?_)
    go_simp
    refine hKo _ _ ?_
    clear hKo Ko
    clear cl0
    try simp only [Act.put, nm1, nm2, nm3, i64_w]
    refine wpList_plain rfl (fun Ko hKo => ?_)
    go_simp
    refine hKo _ _ ?_
    clear hKo Ko
    try simp only [Act.put, nm1, nm2, nm3, i64_w]
    refine wpList_plain rfl (fun Ko hKo => ?_)
    go_simp
    refine hKo _ _ ?_
    clear hKo Ko
    try simp only [Act.put, nm1, nm2, nm3, i64_w]
    refine wpList_nil ?_
    (try simp only [Exit.then, Exit.inBlock, ↓reduceIte, Nat.reduceEqDiff])
    refine hK20 _ _ ?_
    refine wp_cond_true rfl ?_
    refine wp_seq_k (fun K28 hK28 => ?_)
    refine wp_region_lit ?_
    refine wpList_plain rfl (fun Ko hKo => ?_)
    go_simp
    refine hKo _ _ ?_
    clear hKo Ko
    try simp only [Act.put, nm1, nm2, nm3, i64_w]
    refine wpList_nil ?_
    (try simp only [Exit.then, Exit.inBlock, ↓reduceIte, Nat.reduceEqDiff])
    refine hK28 _ _ ?_
    refine wp_ret ?_
    (try simp only [Exit.then, Exit.inBlock, ↓reduceIte, Nat.reduceEqDiff])
    refine hQf _ _ _ ?_
    exact bodyPost_ret (v := .int .i64 (-1)) (by first | rfl | (simp [results, Try.results29, go_sem]; done) | (simp [results, Try.results29, go_sem]; rfl)) rfl ⟨rfl, hu7.out⟩
  ·
   rw [if_neg c17] at H
   replace c17 := Bool.eq_false_iff.mpr c17
   obtain rfl := Option.some.inj H
   refine wp_seq_k (fun K15 hK15 => ?_)
   refine wp_seq_k (fun K16 hK16 => ?_)
   refine wp_region_lit ?_
   refine wpList_plain rfl (fun Ko hKo => ?_)
   go_simp
   refine hKo _ _ ?_
   clear hKo Ko
   try simp only [Act.put, nm1, nm2, nm3, i64_w]
   refine wpList_plain rfl (fun Ko hKo => ?_)
   go_simp
   refine hKo _ _ ?_
   clear hKo Ko
   try simp only [Act.put, nm1, nm2, nm3, i64_w]
   refine wpList_plain rfl (fun Ko hKo => ?_)
   go_simp
   refine hKo _ _ ?_
   clear hKo Ko
   try simp only [Act.put, nm1, nm2, nm3, i64_w]
   refine wpList_plain rfl (fun Ko hKo => ?_)
   go_simp
   refine hKo _ _ ?_
   clear hKo Ko
   try simp only [Act.put, nm1, nm2, nm3, i64_w]
   refine wpList_nil ?_
   (try simp only [Exit.then, Exit.inBlock, ↓reduceIte, Nat.reduceEqDiff])
   refine hK16 _ _ ?_
   refine wp_cond_false rfl ?_
   refine wp_exit ?_
   (try simp only [Exit.then, Exit.inBlock, ↓reduceIte, Nat.reduceEqDiff])
   refine hK2 _ _ ?_
   refine wp_seq_k (fun K29 hK29 => ?_)
   refine wp_region_lit ?_
   refine wpList_plain rfl (fun Ko hKo => ?_)
   go_simp
   refine hKo _ _ ?_
   clear hKo Ko
   try simp only [Act.put, nm1, nm2, nm3, i64_w]
   refine wpList_plain rfl (fun Ko hKo => ?_)
   go_simp
   refine hKo _ _ ?_
   clear hKo Ko
   try simp only [Act.put, nm1, nm2, nm3, i64_w]
   refine wpList_nil ?_
   (try simp only [Exit.then, Exit.inBlock, ↓reduceIte, Nat.reduceEqDiff])
   refine hK29 _ _ ?_
   refine wp_ret ?_
   (try simp only [Exit.then, Exit.inBlock, ↓reduceIte, Nat.reduceEqDiff])
   refine hQf _ _ _ ?_
   exact bodyPost_ret (v := .int .i64 x4) (by first | rfl | (simp [results, Try.results29, go_sem]; done) | (simp [results, Try.results29, go_sem]; rfl)) rfl ⟨rfl, hu7.out⟩

end Go.Proofs.Ythmfgkdhaookoaa
