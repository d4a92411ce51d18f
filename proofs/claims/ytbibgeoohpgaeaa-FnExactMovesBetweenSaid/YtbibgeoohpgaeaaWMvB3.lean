/- The walks: each of these functions of the program computes what its plain function says: impl_IsField, impl_isColour, impl_isNumber, impl_areNumbers, impl_isPoint, impl_arePoints, impl_MovesBetween_1, impl_asked__impl_MovesBetween_1, impl_rest, impl_less, impl_product, impl_quadrance, impl_allPoints, impl_pointsAt_1, impl_pointsWith__impl_pointsAt_1, impl_pointsAt, impl_turned, impl_keeps, impl_keepers, impl_MovesBetween_2, impl_before. -/
import Derived.Test.YtbibgeoohpgaeaaProg
import Derived.Test.YtbibgeoohpgaeaaD1
import Derived.WalkKit
import Derived.KernelRfl
import Derived.BigQuiet
import Derived.Deep.LoopGhost
import Derived.Laws.StructEq
import Derived.Test.YtbibgeoohpgaeaaWMvB2
namespace Go.Proofs.Ytbibgeoohpgaeaa
open Go Go.RowKit
attribute [local go_sem] Oper.quiet Oper.quietAt Oper.quietUpon
attribute [local irreducible] wpList
set_option linter.unusedVariables false
set_option linter.unusedSimpArgs false
attribute [local go_sem] eqT26

set_option maxHeartbeats 40000000 in
set_option maxRecDepth 100000 in
theorem impl_IsField.calls (K : Nat) (a0 : Int) (r0 : Bool) (w : World)  (h : impl_IsField.f K a0 = some (r0)) :
    Calls Try.prog 110 #[.int .i64 a0] w fun e w' => e = .returned (.bool r0) ∧ Up w w' := by
 have H : ((if (a0 == 3) = true then some true else (if (a0 == 5) = true then some true else (if (a0 == 7) = true then some true else (if (a0 == 11) = true then some true else (if (a0 == 13) = true then some true else (if (a0 == 17) = true then some true else (if (a0 == 19) = true then some true else (if (a0 == 23) = true then some true else (if (a0 == 29) = true then some true else (if (a0 == 31) = true then some true else some false)))))))))) : Option (Bool)) = some (r0) := h
 clear h
 go_enter Try.func110, Try.ntmps110
 refine wp_hide (fun Qf hQf => ?_)
 refine wp_seq_k (fun K1 hK1 => ?_)
 refine wp_region_lit ?_
 refine wpList_plain rfl (fun Ko hKo => ?_)
 go_simp
 refine hKo _ _ ?_
 clear hKo Ko
 try simp only [Act.put, nm1, nm2, nm3, i64_w]
 refine wpList_nil ?_
 (try simp only [Exit.then, Exit.inBlock, ↓reduceIte, Nat.reduceEqDiff])
 refine hK1 _ _ ?_
 refine wp_seq_k (fun K2 hK2 => ?_)
 refine wp_seq_k (fun K3 hK3 => ?_)
 refine wp_region_lit ?_
 refine wpList_plain rfl (fun Ko hKo => ?_)
 go_simp
 refine hKo _ _ ?_
 clear hKo Ko
 try simp only [Act.put, nm1, nm2, nm3, i64_w]
 refine wpList_nil ?_
 (try simp only [Exit.then, Exit.inBlock, ↓reduceIte, Nat.reduceEqDiff])
 refine hK3 _ _ ?_
 refine wp_block ?_
 refine wp_seq_k (fun K4 hK4 => ?_)
 refine wp_seq_k (fun K5 hK5 => ?_)
 refine wp_region_lit ?_
 refine wpList_plain rfl (fun Ko hKo => ?_)
 go_simp
 refine hKo _ _ ?_
 clear hKo Ko
 try simp only [Act.put, nm1, nm2, nm3, i64_w]
 refine wpList_plain rfl (fun Ko hKo => ?_)
 go_simp
 refine hKo _ _ ?_
 clear hKo Ko
 try simp only [Act.put, nm1, nm2, nm3, i64_w]
 refine wpList_nil ?_
 (try simp only [Exit.then, Exit.inBlock, ↓reduceIte, Nat.reduceEqDiff])
 refine hK5 _ _ ?_
 by_cases c6 : (a0 == 3) = true
 ·
  rw [if_pos c6] at H
  have c6n : (a0 != 3) = false := by rw [bne, c6]; rfl
  obtain rfl := Option.some.inj H
  try simp only [c6, c6n, Bool.not_true, Bool.not_false]
  refine wp_cond_true rfl ?_
  refine wp_skip ?_
  (try simp only [Exit.then, Exit.inBlock, ↓reduceIte, Nat.reduceEqDiff])
  refine hK4 _ _ ?_
  refine wp_cond_true rfl ?_
  refine wp_seq_k (fun K7 hK7 => ?_)
  refine wp_region_lit ?_
  refine wpList_plain rfl (fun Ko hKo => ?_)
  go_simp
  refine hKo _ _ ?_
  clear hKo Ko
  try simp only [Act.put, nm1, nm2, nm3, i64_w]
  refine wpList_nil ?_
  (try simp only [Exit.then, Exit.inBlock, ↓reduceIte, Nat.reduceEqDiff])
  refine hK7 _ _ ?_
  refine wp_ret ?_
  (try simp only [Exit.then, Exit.inBlock, ↓reduceIte, Nat.reduceEqDiff])
  refine hQf _ _ _ ?_
  exact bodyPost_ret (v := .bool true) (by first | rfl | (simp [results, Try.results110, go_sem]; done) | (simp [results, Try.results110, go_sem]; rfl)) rfl ⟨rfl, (Up.refl _)⟩
 ·
  rw [if_neg c6] at H
  replace c6 := Bool.eq_false_iff.mpr c6
  have c6n : (a0 != 3) = true := by rw [bne, c6]; rfl
  have c6p : ¬ a0 = 3 := fun e => by simp [e] at c6
  try simp only [c6, c6n, Bool.not_true, Bool.not_false]
  refine wp_cond_false rfl ?_
  refine wp_seq_k (fun K8 hK8 => ?_)
  refine wp_region_lit ?_
  refine wpList_plain rfl (fun Ko hKo => ?_)
  go_simp
  refine hKo _ _ ?_
  clear hKo Ko
  try simp only [Act.put, nm1, nm2, nm3, i64_w]
  refine wpList_plain rfl (fun Ko hKo => ?_)
  go_simp
  refine hKo _ _ ?_
  clear hKo Ko
  try simp only [Act.put, nm1, nm2, nm3, i64_w]
  refine wpList_nil ?_
  (try simp only [Exit.then, Exit.inBlock, ↓reduceIte, Nat.reduceEqDiff])
  refine hK8 _ _ ?_
  by_cases c9 : (a0 == 5) = true
  ·
   rw [if_pos c9] at H
   have c9n : (a0 != 5) = false := by rw [bne, c9]; rfl
   obtain rfl := Option.some.inj H
   try simp only [c9, c9n, Bool.not_true, Bool.not_false]
   refine wp_cond_true rfl ?_
   refine wp_skip ?_
   (try simp only [Exit.then, Exit.inBlock, ↓reduceIte, Nat.reduceEqDiff])
   refine hK4 _ _ ?_
   refine wp_cond_true rfl ?_
   refine wp_seq_k (fun K10 hK10 => ?_)
   refine wp_region_lit ?_
   refine wpList_plain rfl (fun Ko hKo => ?_)
   go_simp
   refine hKo _ _ ?_
   clear hKo Ko
   try simp only [Act.put, nm1, nm2, nm3, i64_w]
   refine wpList_nil ?_
   (try simp only [Exit.then, Exit.inBlock, ↓reduceIte, Nat.reduceEqDiff])
   refine hK10 _ _ ?_
   refine wp_ret ?_
   (try simp only [Exit.then, Exit.inBlock, ↓reduceIte, Nat.reduceEqDiff])
   refine hQf _ _ _ ?_
   exact bodyPost_ret (v := .bool true) (by first | rfl | (simp [results, Try.results110, go_sem]; done) | (simp [results, Try.results110, go_sem]; rfl)) rfl ⟨rfl, (Up.refl _)⟩
  ·
   rw [if_neg c9] at H
   replace c9 := Bool.eq_false_iff.mpr c9
   have c9n : (a0 != 5) = true := by rw [bne, c9]; rfl
   have c9p : ¬ a0 = 5 := fun e => by simp [e] at c9
   try simp only [c9, c9n, Bool.not_true, Bool.not_false]
   refine wp_cond_false rfl ?_
   refine wp_seq_k (fun K11 hK11 => ?_)
   refine wp_region_lit ?_
   refine wpList_plain rfl (fun Ko hKo => ?_)
   go_simp
   refine hKo _ _ ?_
   clear hKo Ko
   try simp only [Act.put, nm1, nm2, nm3, i64_w]
   refine wpList_plain rfl (fun Ko hKo => ?_)
   go_simp
   refine hKo _ _ ?_
   clear hKo Ko
   try simp only [Act.put, nm1, nm2, nm3, i64_w]
   refine wpList_nil ?_
   (try simp only [Exit.then, Exit.inBlock, ↓reduceIte, Nat.reduceEqDiff])
   refine hK11 _ _ ?_
   by_cases c12 : (a0 == 7) = true
   ·
    rw [if_pos c12] at H
    have c12n : (a0 != 7) = false := by rw [bne, c12]; rfl
    obtain rfl := Option.some.inj H
    try simp only [c12, c12n, Bool.not_true, Bool.not_false]
    refine wp_cond_true rfl ?_
    refine wp_skip ?_
    (try simp only [Exit.then, Exit.inBlock, ↓reduceIte, Nat.reduceEqDiff])
    refine hK4 _ _ ?_
    refine wp_cond_true rfl ?_
    refine wp_seq_k (fun K13 hK13 => ?_)
    refine wp_region_lit ?_
    refine wpList_plain rfl (fun Ko hKo => ?_)
    go_simp
    refine hKo _ _ ?_
    clear hKo Ko
    try simp only [Act.put, nm1, nm2, nm3, i64_w]
    refine wpList_nil ?_
    (try simp only [Exit.then, Exit.inBlock, ↓reduceIte, Nat.reduceEqDiff])
    refine hK13 _ _ ?_
    refine wp_ret ?_
    (try simp only [Exit.then, Exit.inBlock, ↓reduceIte, Nat.reduceEqDiff])
    refine hQf _ _ _ ?_
    exact bodyPost_ret (v := .bool true) (by first | rfl | (simp [results, Try.results110, go_sem]; done) | (simp [results, Try.results110, go_sem]; rfl)) rfl ⟨rfl, (Up.refl _)⟩
   ·
    rw [if_neg c12] at H
    replace c12 := Bool.eq_false_iff.mpr c12
    have c12n : (a0 != 7) = true := by rw [bne, c12]; rfl
    have c12p : ¬ a0 = 7 := fun e => by simp [e] at c12
    try simp only [c12, c12n, Bool.not_true, Bool.not_false]
    refine wp_cond_false rfl ?_
    refine wp_seq_k (fun K14 hK14 => ?_)
    refine wp_region_lit ?_
    refine wpList_plain rfl (fun Ko hKo => ?_)
    go_simp
    refine hKo _ _ ?_
    clear hKo Ko
    try simp only [Act.put, nm1, nm2, nm3, i64_w]
    refine wpList_plain rfl (fun Ko hKo => ?_)
    go_simp
    refine hKo _ _ ?_
    clear hKo Ko
    try simp only [Act.put, nm1, nm2, nm3, i64_w]
    refine wpList_nil ?_
    (try simp only [Exit.then, Exit.inBlock, ↓reduceIte, Nat.reduceEqDiff])
    refine hK14 _ _ ?_
    by_cases c15 : (a0 == 11) = true
    ·
     rw [if_pos c15] at H
     have c15n : (a0 != 11) = false := by rw [bne, c15]; rfl
     obtain rfl := Option.some.inj H
     try simp only [c15, c15n, Bool.not_true, Bool.not_false]
     refine wp_cond_true rfl ?_
     refine wp_skip ?_
     (try simp only [Exit.then, Exit.inBlock, ↓reduceIte, Nat.reduceEqDiff])
     refine hK4 _ _ ?_
     refine wp_cond_true rfl ?_
     refine wp_seq_k (fun K16 hK16 => ?_)
     refine wp_region_lit ?_
     refine wpList_plain rfl (fun Ko hKo => ?_)
     go_simp
     refine hKo _ _ ?_
     clear hKo Ko
     try simp only [Act.put, nm1, nm2, nm3, i64_w]
     refine wpList_nil ?_
     (try simp only [Exit.then, Exit.inBlock, ↓reduceIte, Nat.reduceEqDiff])
     refine hK16 _ _ ?_
     refine wp_ret ?_
     (try simp only [Exit.then, Exit.inBlock, ↓reduceIte, Nat.reduceEqDiff])
     refine hQf _ _ _ ?_
     exact bodyPost_ret (v := .bool true) (by first | rfl | (simp [results, Try.results110, go_sem]; done) | (simp [results, Try.results110, go_sem]; rfl)) rfl ⟨rfl, (Up.refl _)⟩
    ·
     rw [if_neg c15] at H
     replace c15 := Bool.eq_false_iff.mpr c15
     have c15n : (a0 != 11) = true := by rw [bne, c15]; rfl
     have c15p : ¬ a0 = 11 := fun e => by simp [e] at c15
     try simp only [c15, c15n, Bool.not_true, Bool.not_false]
     refine wp_cond_false rfl ?_
     refine wp_seq_k (fun K17 hK17 => ?_)
     refine wp_region_lit ?_
     refine wpList_plain rfl (fun Ko hKo => ?_)
     go_simp
     refine hKo _ _ ?_
     clear hKo Ko
     try simp only [Act.put, nm1, nm2, nm3, i64_w]
     refine wpList_plain rfl (fun Ko hKo => ?_)
     go_simp
     refine hKo _ _ ?_
     clear hKo Ko
     try simp only [Act.put, nm1, nm2, nm3, i64_w]
     refine wpList_nil ?_
     (try simp only [Exit.then, Exit.inBlock, ↓reduceIte, Nat.reduceEqDiff])
     refine hK17 _ _ ?_
     by_cases c18 : (a0 == 13) = true
     ·
      rw [if_pos c18] at H
      have c18n : (a0 != 13) = false := by rw [bne, c18]; rfl
      obtain rfl := Option.some.inj H
      try simp only [c18, c18n, Bool.not_true, Bool.not_false]
      refine wp_cond_true rfl ?_
      refine wp_skip ?_
      (try simp only [Exit.then, Exit.inBlock, ↓reduceIte, Nat.reduceEqDiff])
      refine hK4 _ _ ?_
      refine wp_cond_true rfl ?_
      refine wp_seq_k (fun K19 hK19 => ?_)
      refine wp_region_lit ?_
      refine wpList_plain rfl (fun Ko hKo => ?_)
      go_simp
      refine hKo _ _ ?_
      clear hKo Ko
      try simp only [Act.put, nm1, nm2, nm3, i64_w]
      refine wpList_nil ?_
      (try simp only [Exit.then, Exit.inBlock, ↓reduceIte, Nat.reduceEqDiff])
      refine hK19 _ _ ?_
      refine wp_ret ?_
      (try simp only [Exit.then, Exit.inBlock, ↓reduceIte, Nat.reduceEqDiff])
      refine hQf _ _ _ ?_
      exact bodyPost_ret (v := .bool true) (by first | rfl | (simp [results, Try.results110, go_sem]; done) | (simp [results, Try.results110, go_sem]; rfl)) rfl ⟨rfl, (Up.refl _)⟩
     ·
      rw [if_neg c18] at H
      replace c18 := Bool.eq_false_iff.mpr c18
      have c18n : (a0 != 13) = true := by rw [bne, c18]; rfl
      have c18p : ¬ a0 = 13 := fun e => by simp [e] at c18
      try simp only [c18, c18n, Bool.not_true, Bool.not_false]
      refine wp_cond_false rfl ?_
      refine wp_seq_k (fun K20 hK20 => ?_)
      refine wp_region_lit ?_
      refine wpList_plain rfl (fun Ko hKo => ?_)
      go_simp
      refine hKo _ _ ?_
      clear hKo Ko
      try simp only [Act.put, nm1, nm2, nm3, i64_w]
      refine wpList_plain rfl (fun Ko hKo => ?_)
      go_simp
      refine hKo _ _ ?_
      clear hKo Ko
      try simp only [Act.put, nm1, nm2, nm3, i64_w]
      refine wpList_nil ?_
      (try simp only [Exit.then, Exit.inBlock, ↓reduceIte, Nat.reduceEqDiff])
      refine hK20 _ _ ?_
      by_cases c21 : (a0 == 17) = true
      ·
       rw [if_pos c21] at H
       have c21n : (a0 != 17) = false := by rw [bne, c21]; rfl
       obtain rfl := Option.some.inj H
       try simp only [c21, c21n, Bool.not_true, Bool.not_false]
       refine wp_cond_true rfl ?_
       refine wp_skip ?_
       (try simp only [Exit.then, Exit.inBlock, ↓reduceIte, Nat.reduceEqDiff])
       refine hK4 _ _ ?_
       refine wp_cond_true rfl ?_
       refine wp_seq_k (fun K22 hK22 => ?_)
       refine wp_region_lit ?_
       refine wpList_plain rfl (fun Ko hKo => ?_)
       go_simp
       refine hKo _ _ ?_
       clear hKo Ko
       try simp only [Act.put, nm1, nm2, nm3, i64_w]
       refine wpList_nil ?_
       (try simp only [Exit.then, Exit.inBlock, ↓reduceIte, Nat.reduceEqDiff])
       refine hK22 _ _ ?_
       refine wp_ret ?_
       (try simp only [Exit.then, Exit.inBlock, ↓reduceIte, Nat.reduceEqDiff])
       refine hQf _ _ _ ?_
       exact bodyPost_ret (v := .bool true) (by first | rfl | (simp [results, Try.results110, go_sem]; done) | (simp [results, Try.results110, go_sem]; rfl)) rfl ⟨rfl, (Up.refl _)⟩
      ·
       rw [if_neg c21] at H
       replace c21 := Bool.eq_false_iff.mpr c21
       have c21n : (a0 != 17) = true := by rw [bne, c21]; rfl
       have c21p : ¬ a0 = 17 := fun e => by simp [e] at c21
       try simp only [c21, c21n, Bool.not_true, Bool.not_false]
       refine wp_cond_false rfl ?_
       refine wp_seq_k (fun K23 hK23 => ?_)
       refine wp_region_lit ?_
       refine wpList_plain rfl (fun Ko hKo => ?_)
       go_simp
       refine hKo _ _ ?_
       clear hKo Ko
       try simp only [Act.put, nm1, nm2, nm3, i64_w]
       refine wpList_plain rfl (fun Ko hKo => ?_)
       go_simp
       refine hKo _ _ ?_
       clear hKo Ko
       try simp only [Act.put, nm1, nm2, nm3, i64_w]
       refine wpList_nil ?_
       (try simp only [Exit.then, Exit.inBlock, ↓reduceIte, Nat.reduceEqDiff])
       refine hK23 _ _ ?_
       by_cases c24 : (a0 == 19) = true
       ·
        rw [if_pos c24] at H
        have c24n : (a0 != 19) = false := by rw [bne, c24]; rfl
        obtain rfl := Option.some.inj H
        try simp only [c24, c24n, Bool.not_true, Bool.not_false]
        refine wp_cond_true rfl ?_
        refine wp_skip ?_
        (try simp only [Exit.then, Exit.inBlock, ↓reduceIte, Nat.reduceEqDiff])
        refine hK4 _ _ ?_
        refine wp_cond_true rfl ?_
        refine wp_seq_k (fun K25 hK25 => ?_)
        refine wp_region_lit ?_
        refine wpList_plain rfl (fun Ko hKo => ?_)
        go_simp
        refine hKo _ _ ?_
        clear hKo Ko
        try simp only [Act.put, nm1, nm2, nm3, i64_w]
        refine wpList_nil ?_
        (try simp only [Exit.then, Exit.inBlock, ↓reduceIte, Nat.reduceEqDiff])
        refine hK25 _ _ ?_
        refine wp_ret ?_
        (try simp only [Exit.then, Exit.inBlock, ↓reduceIte, Nat.reduceEqDiff])
        refine hQf _ _ _ ?_
        exact bodyPost_ret (v := .bool true) (by first | rfl | (simp [results, Try.results110, go_sem]; done) | (simp [results, Try.results110, go_sem]; rfl)) rfl ⟨rfl, (Up.refl _)⟩
       ·
        rw [if_neg c24] at H
        replace c24 := Bool.eq_false_iff.mpr c24
        have c24n : (a0 != 19) = true := by rw [bne, c24]; rfl
        have c24p : ¬ a0 = 19 := fun e => by simp [e] at c24
        try simp only [c24, c24n, Bool.not_true, Bool.not_false]
        refine wp_cond_false rfl ?_
        refine wp_seq_k (fun K26 hK26 => ?_)
        refine wp_region_lit ?_
        refine wpList_plain rfl (fun Ko hKo => ?_)
        go_simp
        refine hKo _ _ ?_
        clear hKo Ko
        try simp only [Act.put, nm1, nm2, nm3, i64_w]
        refine wpList_plain rfl (fun Ko hKo => ?_)
        go_simp
        refine hKo _ _ ?_
        clear hKo Ko
        try simp only [Act.put, nm1, nm2, nm3, i64_w]
        refine wpList_nil ?_
        (try simp only [Exit.then, Exit.inBlock, ↓reduceIte, Nat.reduceEqDiff])
        refine hK26 _ _ ?_
        by_cases c27 : (a0 == 23) = true
        ·
         rw [if_pos c27] at H
         have c27n : (a0 != 23) = false := by rw [bne, c27]; rfl
         obtain rfl := Option.some.inj H
         try simp only [c27, c27n, Bool.not_true, Bool.not_false]
         refine wp_cond_true rfl ?_
         refine wp_skip ?_
         (try simp only [Exit.then, Exit.inBlock, ↓reduceIte, Nat.reduceEqDiff])
         refine hK4 _ _ ?_
         refine wp_cond_true rfl ?_
         refine wp_seq_k (fun K28 hK28 => ?_)
         refine wp_region_lit ?_
         refine wpList_plain rfl (fun Ko hKo => ?_)
         go_simp
         refine hKo _ _ ?_
         clear hKo Ko
         try simp only [Act.put, nm1, nm2, nm3, i64_w]
         refine wpList_nil ?_
         (try simp only [Exit.then, Exit.inBlock, ↓reduceIte, Nat.reduceEqDiff])
         refine hK28 _ _ ?_
         refine wp_ret ?_
         (try simp only [Exit.then, Exit.inBlock, ↓reduceIte, Nat.reduceEqDiff])
         refine hQf _ _ _ ?_
         exact bodyPost_ret (v := .bool true) (by first | rfl | (simp [results, Try.results110, go_sem]; done) | (simp [results, Try.results110, go_sem]; rfl)) rfl ⟨rfl, (Up.refl _)⟩
        ·
         rw [if_neg c27] at H
         replace c27 := Bool.eq_false_iff.mpr c27
         have c27n : (a0 != 23) = true := by rw [bne, c27]; rfl
         have c27p : ¬ a0 = 23 := fun e => by simp [e] at c27
         try simp only [c27, c27n, Bool.not_true, Bool.not_false]
         refine wp_cond_false rfl ?_
         refine wp_seq_k (fun K29 hK29 => ?_)
         refine wp_region_lit ?_
         refine wpList_plain rfl (fun Ko hKo => ?_)
         go_simp
         refine hKo _ _ ?_
         clear hKo Ko
         try simp only [Act.put, nm1, nm2, nm3, i64_w]
         refine wpList_plain rfl (fun Ko hKo => ?_)
         go_simp
         refine hKo _ _ ?_
         clear hKo Ko
         try simp only [Act.put, nm1, nm2, nm3, i64_w]
         refine wpList_nil ?_
         (try simp only [Exit.then, Exit.inBlock, ↓reduceIte, Nat.reduceEqDiff])
         refine hK29 _ _ ?_
         by_cases c30 : (a0 == 29) = true
         ·
          rw [if_pos c30] at H
          have c30n : (a0 != 29) = false := by rw [bne, c30]; rfl
          obtain rfl := Option.some.inj H
          try simp only [c30, c30n, Bool.not_true, Bool.not_false]
          refine wp_cond_true rfl ?_
          refine wp_skip ?_
          (try simp only [Exit.then, Exit.inBlock, ↓reduceIte, Nat.reduceEqDiff])
          refine hK4 _ _ ?_
          refine wp_cond_true rfl ?_
          refine wp_seq_k (fun K31 hK31 => ?_)
          refine wp_region_lit ?_
          refine wpList_plain rfl (fun Ko hKo => ?_)
          go_simp
          refine hKo _ _ ?_
          clear hKo Ko
          try simp only [Act.put, nm1, nm2, nm3, i64_w]
          refine wpList_nil ?_
          (try simp only [Exit.then, Exit.inBlock, ↓reduceIte, Nat.reduceEqDiff])
          refine hK31 _ _ ?_
          refine wp_ret ?_
          (try simp only [Exit.then, Exit.inBlock, ↓reduceIte, Nat.reduceEqDiff])
          refine hQf _ _ _ ?_
          exact bodyPost_ret (v := .bool true) (by first | rfl | (simp [results, Try.results110, go_sem]; done) | (simp [results, Try.results110, go_sem]; rfl)) rfl ⟨rfl, (Up.refl _)⟩
         ·
          rw [if_neg c30] at H
          replace c30 := Bool.eq_false_iff.mpr c30
          have c30n : (a0 != 29) = true := by rw [bne, c30]; rfl
          have c30p : ¬ a0 = 29 := fun e => by simp [e] at c30
          try simp only [c30, c30n, Bool.not_true, Bool.not_false]
          refine wp_cond_false rfl ?_
          refine wp_region_lit ?_
          refine wpList_plain rfl (fun Ko hKo => ?_)
          go_simp
          refine hKo _ _ ?_
          clear hKo Ko
          try simp only [Act.put, nm1, nm2, nm3, i64_w]
          refine wpList_plain rfl (fun Ko hKo => ?_)
          go_simp
          refine hKo _ _ ?_
          clear hKo Ko
          try simp only [Act.put, nm1, nm2, nm3, i64_w]
          refine wpList_nil ?_
          (try simp only [Exit.then, Exit.inBlock, ↓reduceIte, Nat.reduceEqDiff])
          refine hK4 _ _ ?_
          by_cases c32 : (a0 == 31) = true
          ·
           rw [if_pos c32] at H
           have c32n : (a0 != 31) = false := by rw [bne, c32]; rfl
           obtain rfl := Option.some.inj H
           try simp only [c32, c32n, Bool.not_true, Bool.not_false]
           refine wp_cond_true rfl ?_
           refine wp_seq_k (fun K33 hK33 => ?_)
           refine wp_region_lit ?_
           refine wpList_plain rfl (fun Ko hKo => ?_)
           go_simp
           refine hKo _ _ ?_
           clear hKo Ko
           try simp only [Act.put, nm1, nm2, nm3, i64_w]
           refine wpList_nil ?_
           (try simp only [Exit.then, Exit.inBlock, ↓reduceIte, Nat.reduceEqDiff])
           refine hK33 _ _ ?_
           refine wp_ret ?_
           (try simp only [Exit.then, Exit.inBlock, ↓reduceIte, Nat.reduceEqDiff])
           refine hQf _ _ _ ?_
           exact bodyPost_ret (v := .bool true) (by first | rfl | (simp [results, Try.results110, go_sem]; done) | (simp [results, Try.results110, go_sem]; rfl)) rfl ⟨rfl, (Up.refl _)⟩
          ·
           rw [if_neg c32] at H
           replace c32 := Bool.eq_false_iff.mpr c32
           have c32n : (a0 != 31) = true := by rw [bne, c32]; rfl
           have c32p : ¬ a0 = 31 := fun e => by simp [e] at c32
           obtain rfl := Option.some.inj H
           try simp only [c32, c32n, Bool.not_true, Bool.not_false]
           refine wp_cond_false rfl ?_
           refine wp_skip ?_
           (try simp only [Exit.then, Exit.inBlock, ↓reduceIte, Nat.reduceEqDiff])
           refine hK2 _ _ ?_
           refine wp_seq_k (fun K34 hK34 => ?_)
           refine wp_region_lit ?_
           refine wpList_plain rfl (fun Ko hKo => ?_)
           go_simp
           refine hKo _ _ ?_
           clear hKo Ko
           try simp only [Act.put, nm1, nm2, nm3, i64_w]
           refine wpList_nil ?_
           (try simp only [Exit.then, Exit.inBlock, ↓reduceIte, Nat.reduceEqDiff])
           refine hK34 _ _ ?_
           refine wp_ret ?_
           (try simp only [Exit.then, Exit.inBlock, ↓reduceIte, Nat.reduceEqDiff])
           refine hQf _ _ _ ?_
           exact bodyPost_ret (v := .bool false) (by first | rfl | (simp [results, Try.results110, go_sem]; done) | (simp [results, Try.results110, go_sem]; rfl)) rfl ⟨rfl, (Up.refl _)⟩

set_option maxHeartbeats 40000000 in
set_option maxRecDepth 100000 in
theorem impl_isColour.calls (K : Nat) (a0 : Int) (r0 : Bool) (w : World)  (h : impl_isColour.f K a0 = some (r0)) :
    Calls Try.prog 56 #[.int .i64 a0] w fun e w' => e = .returned (.bool r0) ∧ Up w w' := by
 have H : ((if decide (0 ≤ a0) = true then some (decide (a0 ≤ 2)) else some false) : Option (Bool)) = some (r0) := h
 clear h
 go_enter Try.func56, Try.ntmps56
 refine wp_hide (fun Qf hQf => ?_)
 refine wp_seq_k (fun K1 hK1 => ?_)
 refine wp_region_lit ?_
 refine wpList_plain rfl (fun Ko hKo => ?_)
 go_simp
 refine hKo _ _ ?_
 clear hKo Ko
 try simp only [Act.put, nm1, nm2, nm3, i64_w]
 refine wpList_nil ?_
 (try simp only [Exit.then, Exit.inBlock, ↓reduceIte, Nat.reduceEqDiff])
 refine hK1 _ _ ?_
 refine wp_seq_k (fun K2 hK2 => ?_)
 refine wp_region_lit ?_
 refine wpList_plain rfl (fun Ko hKo => ?_)
 go_simp
 refine hKo _ _ ?_
 clear hKo Ko
 try simp only [Act.put, nm1, nm2, nm3, i64_w]
 refine wpList_plain rfl (fun Ko hKo => ?_)
 go_simp
 refine hKo _ _ ?_
 clear hKo Ko
 try simp only [Act.put, nm1, nm2, nm3, i64_w]
 refine wpList_plain rfl (fun Ko hKo => ?_)
 go_simp
 refine hKo _ _ ?_
 clear hKo Ko
 try simp only [Act.put, nm1, nm2, nm3, i64_w]
 by_cases c3 : (decide (0 ≤ a0)) = true
 ·
  rw [if_pos c3] at H
  obtain rfl := Option.some.inj H
  try simp only [c3, Bool.not_true, Bool.not_false]
  refine wpList_step (fun Ko hKo => ?_)
  go_simp
  refine hKo _ _ ?_
  clear hKo Ko
  try simp only [Act.put, nm1, nm2, nm3, i64_w]
  refine wpList_step (fun Ko hKo => ?_)
  go_simp
  refine hKo _ _ ?_
  clear hKo Ko
  try simp only [Act.put, nm1, nm2, nm3, i64_w]
  refine wpList_plain rfl (fun Ko hKo => ?_)
  go_simp
  refine hKo _ _ ?_
  clear hKo Ko
  try simp only [Act.put, nm1, nm2, nm3, i64_w]
  refine wpList_plain rfl (fun Ko hKo => ?_)
  go_simp
  refine hKo _ _ ?_
  clear hKo Ko
  try simp only [Act.put, nm1, nm2, nm3, i64_w]
  refine wpList_nil ?_
  (try simp only [Exit.then, Exit.inBlock, ↓reduceIte, Nat.reduceEqDiff])
  refine hK2 _ _ ?_
  refine wp_ret ?_
  (try simp only [Exit.then, Exit.inBlock, ↓reduceIte, Nat.reduceEqDiff])
  refine hQf _ _ _ ?_
  exact bodyPost_ret (v := .bool (decide (a0 ≤ 2))) (by first | rfl | (simp [results, Try.results56, go_sem]; done) | (simp [results, Try.results56, go_sem]; rfl)) rfl ⟨rfl, (Up.refl _)⟩
 ·
  rw [if_neg c3] at H
  replace c3 := Bool.eq_false_iff.mpr c3
  obtain rfl := Option.some.inj H
  try simp only [c3, Bool.not_true, Bool.not_false]
  refine step_no rfl ?_
  simp only [Act.put, nm1, nm2, nm3, i64_w]
  refine step_no rfl ?_
  simp only [Act.put, nm1, nm2, nm3, i64_w]
  refine wpList_plain rfl (fun Ko hKo => ?_)
  go_simp
  refine hKo _ _ ?_
  clear hKo Ko
  try simp only [Act.put, nm1, nm2, nm3, i64_w]
  refine wpList_plain rfl (fun Ko hKo => ?_)
  go_simp
  refine hKo _ _ ?_
  clear hKo Ko
  try simp only [Act.put, nm1, nm2, nm3, i64_w]
  refine wpList_nil ?_
  (try simp only [Exit.then, Exit.inBlock, ↓reduceIte, Nat.reduceEqDiff])
  refine hK2 _ _ ?_
  refine wp_ret ?_
  (try simp only [Exit.then, Exit.inBlock, ↓reduceIte, Nat.reduceEqDiff])
  refine hQf _ _ _ ?_
  exact bodyPost_ret (v := .bool false) (by first | rfl | (simp [results, Try.results56, go_sem]; done) | (simp [results, Try.results56, go_sem]; rfl)) rfl ⟨rfl, (Up.refl _)⟩

set_option maxHeartbeats 40000000 in
set_option maxRecDepth 100000 in
theorem impl_isNumber.calls (K : Nat) (a0 : Int) (a1 : Int) (r0 : Bool) (w : World)  (h : impl_isNumber.f K a0 a1 = some (r0)) :
    Calls Try.prog 134 #[.int .i64 a0, .int .i64 a1] w fun e w' => e = .returned (.bool r0) ∧ Up w w' := by
 have H : ((if decide (0 ≤ a1) = true then some (decide (a1 < a0)) else some false) : Option (Bool)) = some (r0) := h
 clear h
 go_enter Try.func134, Try.ntmps134
 refine wp_hide (fun Qf hQf => ?_)
 refine wp_seq_k (fun K1 hK1 => ?_)
 refine wp_region_lit ?_
 refine wpList_plain rfl (fun Ko hKo => ?_)
 go_simp
 refine hKo _ _ ?_
 clear hKo Ko
 try simp only [Act.put, nm1, nm2, nm3, i64_w]
 refine wpList_nil ?_
 (try simp only [Exit.then, Exit.inBlock, ↓reduceIte, Nat.reduceEqDiff])
 refine hK1 _ _ ?_
 refine wp_seq_k (fun K2 hK2 => ?_)
 refine wp_region_lit ?_
 refine wpList_plain rfl (fun Ko hKo => ?_)
 go_simp
 refine hKo _ _ ?_
 clear hKo Ko
 try simp only [Act.put, nm1, nm2, nm3, i64_w]
 refine wpList_plain rfl (fun Ko hKo => ?_)
 go_simp
 refine hKo _ _ ?_
 clear hKo Ko
 try simp only [Act.put, nm1, nm2, nm3, i64_w]
 refine wpList_plain rfl (fun Ko hKo => ?_)
 go_simp
 refine hKo _ _ ?_
 clear hKo Ko
 try simp only [Act.put, nm1, nm2, nm3, i64_w]
 by_cases c3 : (decide (0 ≤ a1)) = true
 ·
  rw [if_pos c3] at H
  obtain rfl := Option.some.inj H
  try simp only [c3, Bool.not_true, Bool.not_false]
  refine wpList_step (fun Ko hKo => ?_)
  go_simp
  refine hKo _ _ ?_
  clear hKo Ko
  try simp only [Act.put, nm1, nm2, nm3, i64_w]
  refine wpList_step (fun Ko hKo => ?_)
  go_simp
  refine hKo _ _ ?_
  clear hKo Ko
  try simp only [Act.put, nm1, nm2, nm3, i64_w]
  refine wpList_step (fun Ko hKo => ?_)
  go_simp
  refine hKo _ _ ?_
  clear hKo Ko
  try simp only [Act.put, nm1, nm2, nm3, i64_w]
  refine wpList_plain rfl (fun Ko hKo => ?_)
  go_simp
  refine hKo _ _ ?_
  clear hKo Ko
  try simp only [Act.put, nm1, nm2, nm3, i64_w]
  refine wpList_plain rfl (fun Ko hKo => ?_)
  go_simp
  refine hKo _ _ ?_
  clear hKo Ko
  try simp only [Act.put, nm1, nm2, nm3, i64_w]
  refine wpList_nil ?_
  (try simp only [Exit.then, Exit.inBlock, ↓reduceIte, Nat.reduceEqDiff])
  refine hK2 _ _ ?_
  refine wp_ret ?_
  (try simp only [Exit.then, Exit.inBlock, ↓reduceIte, Nat.reduceEqDiff])
  refine hQf _ _ _ ?_
  exact bodyPost_ret (v := .bool (decide (a1 < a0))) (by first | rfl | (simp [results, Try.results134, go_sem]; done) | (simp [results, Try.results134, go_sem]; rfl)) rfl ⟨rfl, (Up.refl _)⟩
 ·
  rw [if_neg c3] at H
  replace c3 := Bool.eq_false_iff.mpr c3
  obtain rfl := Option.some.inj H
  try simp only [c3, Bool.not_true, Bool.not_false]
  refine step_no rfl ?_
  simp only [Act.put, nm1, nm2, nm3, i64_w]
  refine step_no rfl ?_
  simp only [Act.put, nm1, nm2, nm3, i64_w]
  refine step_no rfl ?_
  simp only [Act.put, nm1, nm2, nm3, i64_w]
  refine wpList_plain rfl (fun Ko hKo => ?_)
  go_simp
  refine hKo _ _ ?_
  clear hKo Ko
  try simp only [Act.put, nm1, nm2, nm3, i64_w]
  refine wpList_plain rfl (fun Ko hKo => ?_)
  go_simp
  refine hKo _ _ ?_
  clear hKo Ko
  try simp only [Act.put, nm1, nm2, nm3, i64_w]
  refine wpList_nil ?_
  (try simp only [Exit.then, Exit.inBlock, ↓reduceIte, Nat.reduceEqDiff])
  refine hK2 _ _ ?_
  refine wp_ret ?_
  (try simp only [Exit.then, Exit.inBlock, ↓reduceIte, Nat.reduceEqDiff])
  refine hQf _ _ _ ?_
  exact bodyPost_ret (v := .bool false) (by first | rfl | (simp [results, Try.results134, go_sem]; done) | (simp [results, Try.results134, go_sem]; rfl)) rfl ⟨rfl, (Up.refl _)⟩

set_option maxHeartbeats 40000000 in
set_option maxRecDepth 100000 in
theorem impl_areNumbers.calls (K : Nat) (a0 : Int) (a1_A : Option Addr) (a1_c : Nat) (a1 : List (Int)) (r0 : Bool) (w : World) (ha1 : Rd eI w a1_A a1) (h : impl_areNumbers.f K a0 a1 = some (r0)) :
    Calls Try.prog 111 #[.int .i64 a0, .slice a1_A a1.length a1_c] w fun e w' => e = .returned (.bool r0) ∧ Up w w' := by
 have H : ((impl_areNumbers.l0 K a0 a1 K 0) : Option (Bool)) = some (r0) := h
 clear h
 go_enter Try.func111, Try.ntmps111
 refine wp_hide (fun Qf hQf => ?_)
 refine wp_seq_k (fun K1 hK1 => ?_)
 refine wp_region_lit ?_
 refine wpList_plain rfl (fun Ko hKo => ?_)
 go_simp
 refine hKo _ _ ?_
 clear hKo Ko
 try simp only [Act.put, nm1, nm2, nm3, i64_w]
 refine wpList_nil ?_
 (try simp only [Exit.then, Exit.inBlock, ↓reduceIte, Nat.reduceEqDiff])
 refine hK1 _ _ ?_
 refine wp_seq_k (fun K2 hK2 => ?_)
 refine wp_seq_k (fun K3 hK3 => ?_)
 refine wp_region_lit ?_
 refine wpList_plain rfl (fun Ko hKo => ?_)
 go_simp
 refine hKo _ _ ?_
 clear hKo Ko
 try simp only [Act.put, nm1, nm2, nm3, i64_w]
 refine wpList_plain rfl (fun Ko hKo => ?_)
 go_simp
 refine hKo _ _ ?_
 clear hKo Ko
 try simp only [Act.put, nm1, nm2, nm3, i64_w]
 refine wpList_plain rfl (fun Ko hKo => ?_)
 go_simp
 refine hKo _ _ ?_
 clear hKo Ko
 try simp only [Act.put, nm1, nm2, nm3, i64_w]
 refine wpList_nil ?_
 (try simp only [Exit.then, Exit.inBlock, ↓reduceIte, Nat.reduceEqDiff])
 refine hK3 _ _ ?_
 refine wp_block ?_
 have HL8 := Aside0.mk H
 clear H
 go_loopg [9] K (fun kq v9 w' => ∃ (x4 : Int), v9 = .int .i64 x4 ∧ Aside0 (impl_areNumbers.l0 K a0 a1 kq x4 = some (r0)) ∧ Aside0 (kq ≤ K) ∧ Aside0 (Up w w') ∧ Aside0 (w.heap.size ≤ w'.heap.size))
 case atStart => exact ⟨0, (by first | rfl | simp), HL8, ⟨Nat.le_refl _⟩, ⟨(Up.refl _)⟩, ⟨Nat.le_refl _⟩⟩
 case round =>
  rename_i J12 K13 hJ12 hK13
  obtain ⟨x4, rfl, HL11, hk10, hu6, hz7⟩ := hrel
  obtain ⟨w5, rfl⟩ : ∃ wo : World, wo = wr := ⟨_, rfl⟩
  obtain ⟨k9, rfl⟩ | rfl : (∃ k, gk = k + 1) ∨ gk = 0 := by rcases gk with _ | k; exact .inr rfl; exact .inl ⟨k, rfl⟩
  case inr => exact absurd HL11.out (by simp [impl_areNumbers.l0])
  have H := HL11.out
  clear HL11
  rw [impl_areNumbers.l0] at H
  refine wp_seq_k (fun K14 hK14 => ?_)
  refine wp_region_lit ?_
  refine wpList_plain rfl (fun Ko hKo => ?_)
  go_simp
  refine hKo _ _ ?_
  clear hKo Ko
  try simp only [Act.put, nm1, nm2, nm3, i64_w]
  refine wpList_nil ?_
  (try simp only [Exit.then, Exit.inBlock, ↓reduceIte, Nat.reduceEqDiff])
  refine hK14 _ _ ?_
  refine wp_seq_k (fun K15 hK15 => ?_)
  by_cases c16 : (decide (x4 < (a1.length : Int))) = true
  ·
   rw [if_pos c16] at H
   replace H := Option.bind_eq_some_iff.mp H
   obtain ⟨t19, A20, H⟩ := H
   replace A20 := Aside0.mk A20
   try dsimp only at H
   replace H := Option.bind_eq_some_iff.mp H
   obtain ⟨t25, A26, H⟩ := H
   replace A26 := Aside0.mk A26
   try dsimp only at H
   try simp only [c16, Bool.not_true, Bool.not_false]
   refine wp_cond_true rfl ?_
   refine wp_skip ?_
   (try simp only [Exit.then, Exit.inBlock, ↓reduceIte, Nat.reduceEqDiff])
   refine hK15 _ _ ?_
   refine wp_seq_k (fun K17 hK17 => ?_)
   refine wp_block ?_
   refine wp_seq_k (fun K18 hK18 => ?_)
   refine wp_region_lit ?_
   refine step_index eI (T := 2) (wanted_none rfl) rfl (by kernel_rfl) (by kernel_rfl) rfl rfl rfl (ha1.up hu6.out) A20.out ?_
   intro ad21 hat he
   have he22 := Aside0.mk he
   have hat23 := Aside0.mk hat
   clear he hat
   simp only [Act.put, nm1, nm2, nm3, i64_w]
   have cl0 := he22.out 0 _ rfl
   rw [addr_add0] at cl0
   refine wpList_plain rfl (fun Ko hKo => ?_)
   go_simp
   refine hKo _ _ ?_
   clear hKo Ko
   clear cl0
   try simp only [Act.put, nm1, nm2, nm3, i64_w]
   refine wpList_plain rfl (fun Ko hKo => ?_)
   go_simp
   refine hKo _ _ ?_
   clear hKo Ko
   try simp only [Act.put, nm1, nm2, nm3, i64_w]
   refine wpList_nil ?_
   (try simp only [Exit.then, Exit.inBlock, ↓reduceIte, Nat.reduceEqDiff])
   refine hK18 _ _ ?_
   refine wp_seq_k (fun K24 hK24 => ?_)
   refine wp_region_lit ?_
   refine wpList_plain rfl (fun Ko hKo => ?_)
   go_simp
   refine hKo _ _ ?_
   clear hKo Ko
   try simp only [Act.put, nm1, nm2, nm3, i64_w]
   refine wpList_plain rfl (fun Ko hKo => ?_)
   go_simp
   refine hKo _ _ ?_
   clear hKo Ko
   try simp only [Act.put, nm1, nm2, nm3, i64_w]
   refine step_call (wanted_none rfl) (by first | (go_simp; done) | (go_simp; rfl)) (impl_isNumber.calls K a0 t19 t25 w5  A26.out) ?_
   rintro e w27 ⟨rfl, hu⟩
   have hu28 := Aside0.mk hu
   clear hu
   refine ⟨_, rfl, ?_⟩
   simp only [Act.put, nm1, nm2, nm3, i64_w]
   refine wpList_plain rfl (fun Ko hKo => ?_)
   go_simp
   refine hKo _ _ ?_
   clear hKo Ko
   try simp only [Act.put, nm1, nm2, nm3, i64_w]
   refine wpList_nil ?_
   (try simp only [Exit.then, Exit.inBlock, ↓reduceIte, Nat.reduceEqDiff])
   refine hK24 _ _ ?_
   by_cases c29 : (t25) = true
   ·
    rw [if_pos c29] at H
    subst c29
    have HL30 := Aside0.mk H
    clear H
    refine wp_cond_false rfl ?_
    refine wp_skip ?_
    (try simp only [Exit.then, Exit.inBlock, ↓reduceIte, Nat.reduceEqDiff])
    refine hK17 _ _ ?_
    refine wp_region_lit ?_
    refine wpList_plain rfl (fun Ko hKo => ?_)
    go_simp
    refine hKo _ _ ?_
    clear hKo Ko
    try simp only [Act.put, nm1, nm2, nm3, i64_w]
    refine wpList_plain rfl (fun Ko hKo => ?_)
    go_simp
    refine hKo _ _ ?_
    clear hKo Ko
    try simp only [Act.put, nm1, nm2, nm3, i64_w]
    refine wpList_nil ?_
    (try simp only [Exit.then, Exit.inBlock, ↓reduceIte, Nat.reduceEqDiff])
    refine hK13 _ _ ?_
    go_roundg k9
    case measure => exact Nat.lt_succ_self _
    case rel => exact ⟨wrap64 (x4 + 1), (by first | rfl | simp), HL30, ⟨by have := hk10.out; omega⟩, ⟨(hu6.out.trans hu28.out)⟩, ⟨(Nat.le_trans ((Nat.le_trans (Nat.le_refl _) hz7.out)) hu28.out.size)⟩⟩
   ·
    rw [if_neg c29] at H
    replace c29 := Bool.eq_false_iff.mpr c29
    subst c29
    obtain rfl := Option.some.inj H
    refine wp_cond_true rfl ?_
    refine wp_seq_k (fun K31 hK31 => ?_)
    refine wp_region_lit ?_
    refine wpList_plain rfl (fun Ko hKo => ?_)
    go_simp
    refine hKo _ _ ?_
    clear hKo Ko
    try simp only [Act.put, nm1, nm2, nm3, i64_w]
    refine wpList_nil ?_
    (try simp only [Exit.then, Exit.inBlock, ↓reduceIte, Nat.reduceEqDiff])
    refine hK31 _ _ ?_
    refine wp_ret ?_
    (try simp only [Exit.then, Exit.inBlock, ↓reduceIte, Nat.reduceEqDiff])
    refine hQf _ _ _ ?_
    exact bodyPost_ret (v := .bool false) (by first | rfl | (simp [results, Try.results111, go_sem]; done) | (simp [results, Try.results111, go_sem]; rfl)) rfl ⟨rfl, (hu6.out.trans hu28.out)⟩
  ·
   rw [if_neg c16] at H
   replace c16 := Bool.eq_false_iff.mpr c16
   obtain rfl := Option.some.inj H
   try simp only [c16, Bool.not_true, Bool.not_false]
   refine wp_cond_false rfl ?_
   refine wp_exit ?_
   (try simp only [Exit.then, Exit.inBlock, ↓reduceIte, Nat.reduceEqDiff])
   refine hK2 _ _ ?_
   refine wp_seq_k (fun K32 hK32 => ?_)
   refine wp_region_lit ?_
   refine wpList_plain rfl (fun Ko hKo => ?_)
   go_simp
   refine hKo _ _ ?_
   clear hKo Ko
   try simp only [Act.put, nm1, nm2, nm3, i64_w]
   refine wpList_nil ?_
   (try simp only [Exit.then, Exit.inBlock, ↓reduceIte, Nat.reduceEqDiff])
   refine hK32 _ _ ?_
   refine wp_ret ?_
   (try simp only [Exit.then, Exit.inBlock, ↓reduceIte, Nat.reduceEqDiff])
   refine hQf _ _ _ ?_
   exact bodyPost_ret (v := .bool true) (by first | rfl | (simp [results, Try.results111, go_sem]; done) | (simp [results, Try.results111, go_sem]; rfl)) rfl ⟨rfl, hu6.out⟩

set_option maxHeartbeats 40000000 in
set_option maxRecDepth 100000 in
theorem impl_isPoint.calls (K : Nat) (a0 : Int) (a1_0 : Int) (a1_1 : Int) (r0 : Bool) (w : World)  (h : impl_isPoint.f K a0 a1_0 a1_1 = some (r0)) :
    Calls Try.prog 52 #[.int .i64 a0, .agg #[.int .i64 a1_0, .int .i64 a1_1]] w fun e w' => e = .returned (.bool r0) ∧ Up w w' := by
 have H : (((impl_areNumbers.f K a0 ([a1_0, a1_1])).bind fun t6 => some t6) : Option (Bool)) = some (r0) := h
 clear h
 replace H := Option.bind_eq_some_iff.mp H
 obtain ⟨t6, A7, H⟩ := H
 replace A7 := Aside0.mk A7
 try dsimp only at H
 obtain rfl := Option.some.inj H
 go_enter Try.func52, Try.ntmps52
 refine wp_hide (fun Qf hQf => ?_)
 refine wp_seq_k (fun K1 hK1 => ?_)
 refine wp_region_lit ?_
 refine step_new (cs := [.int .i64 a1_0, .int .i64 a1_1]) (T := 26) (f := fun b => .pointer (some ⟨b, 0, none⟩)) rfl (by first | (go_simp; done) | (go_simp; rfl)) ?_
 intro b2 w3 hu lb hb2
 simp only [Act.put, nm1, nm2, nm3, i64_w]
 have lbb2 := Aside0.mk lb
 have ltb2 := Aside0.mk hb2.lt
 clear lb
 have hu4 := Aside0.mk hu
 clear hu
 refine wpList_plain rfl (fun Ko hKo => ?_)
 go_simp
 refine hKo _ _ ?_
 clear hKo Ko
 try simp only [Act.put, nm1, nm2, nm3, i64_w]
 refine wpList_nil ?_
 (try simp only [Exit.then, Exit.inBlock, ↓reduceIte, Nat.reduceEqDiff])
 refine hK1 _ _ ?_
 refine wp_seq_k (fun K5 hK5 => ?_)
 refine wp_region_lit ?_
 refine wpList_plain rfl (fun Ko hKo => ?_)
 go_simp
 refine hKo _ _ ?_
 clear hKo Ko
 try simp only [Act.put, nm1, nm2, nm3, i64_w]
 refine wpList_plain rfl (fun Ko hKo => ?_)
 go_simp
 refine hKo _ _ ?_
 clear hKo Ko
 try simp only [Act.put, nm1, nm2, nm3, i64_w]
 refine step_call (wanted_none rfl) (by first | (go_simp; done) | (go_simp; rfl)) (impl_areNumbers.calls K a0 (some ⟨b2, 0, none⟩) 2 ([a1_0, a1_1]) t6 w3 (Rd.of_blk (E := eI) (xs := [a1_0, a1_1]) (o := 0) hb2 (by simp) (fun j u hu => by rcases j with _ | _ | j <;> simp_all [Enc.flat, eI])) A7.out) ?_
 rintro e w8 ⟨rfl, hu⟩
 have hu9 := Aside0.mk hu
 clear hu
 refine ⟨_, rfl, ?_⟩
 simp only [Act.put, nm1, nm2, nm3, i64_w]
 refine wpList_plain rfl (fun Ko hKo => ?_)
 go_simp
 refine hKo _ _ ?_
 clear hKo Ko
 try simp only [Act.put, nm1, nm2, nm3, i64_w]
 refine wpList_nil ?_
 (try simp only [Exit.then, Exit.inBlock, ↓reduceIte, Nat.reduceEqDiff])
 refine hK5 _ _ ?_
 refine wp_ret ?_
 (try simp only [Exit.then, Exit.inBlock, ↓reduceIte, Nat.reduceEqDiff])
 refine hQf _ _ _ ?_
 exact bodyPost_ret (v := .bool t6) (by first | rfl | (simp [results, Try.results52, go_sem]; done) | (simp [results, Try.results52, go_sem]; rfl)) rfl ⟨rfl, (hu4.out.trans hu9.out)⟩

set_option maxHeartbeats 40000000 in
set_option maxRecDepth 100000 in
theorem impl_arePoints.calls (K : Nat) (a0 : Int) (a1_A : Option Addr) (a1_c : Nat) (a1 : List (Int × Int)) (r0 : Bool) (w : World) (ha1 : Rd e2 w a1_A a1) (h : impl_arePoints.f K a0 a1 = some (r0)) :
    Calls Try.prog 104 #[.int .i64 a0, .slice a1_A a1.length a1_c] w fun e w' => e = .returned (.bool r0) ∧ Up w w' := by
 have H : ((impl_arePoints.l0 K a0 a1 K 0) : Option (Bool)) = some (r0) := h
 clear h
 go_enter Try.func104, Try.ntmps104
 refine wp_hide (fun Qf hQf => ?_)
 refine wp_seq_k (fun K1 hK1 => ?_)
 refine wp_region_lit ?_
 refine wpList_plain rfl (fun Ko hKo => ?_)
 go_simp
 refine hKo _ _ ?_
 clear hKo Ko
 try simp only [Act.put, nm1, nm2, nm3, i64_w]
 refine wpList_nil ?_
 (try simp only [Exit.then, Exit.inBlock, ↓reduceIte, Nat.reduceEqDiff])
 refine hK1 _ _ ?_
 refine wp_seq_k (fun K2 hK2 => ?_)
 refine wp_seq_k (fun K3 hK3 => ?_)
 refine wp_region_lit ?_
 refine wpList_plain rfl (fun Ko hKo => ?_)
 go_simp
 refine hKo _ _ ?_
 clear hKo Ko
 try simp only [Act.put, nm1, nm2, nm3, i64_w]
 refine wpList_plain rfl (fun Ko hKo => ?_)
 go_simp
 refine hKo _ _ ?_
 clear hKo Ko
 try simp only [Act.put, nm1, nm2, nm3, i64_w]
 refine wpList_plain rfl (fun Ko hKo => ?_)
 go_simp
 refine hKo _ _ ?_
 clear hKo Ko
 try simp only [Act.put, nm1, nm2, nm3, i64_w]
 refine wpList_nil ?_
 (try simp only [Exit.then, Exit.inBlock, ↓reduceIte, Nat.reduceEqDiff])
 refine hK3 _ _ ?_
 refine wp_block ?_
 have HL8 := Aside0.mk H
 clear H
 go_loopg [9] K (fun kq v9 w' => ∃ (x4 : Int), v9 = .int .i64 x4 ∧ Aside0 (impl_arePoints.l0 K a0 a1 kq x4 = some (r0)) ∧ Aside0 (kq ≤ K) ∧ Aside0 (Up w w') ∧ Aside0 (w.heap.size ≤ w'.heap.size))
 case atStart => exact ⟨0, (by first | rfl | simp), HL8, ⟨Nat.le_refl _⟩, ⟨(Up.refl _)⟩, ⟨Nat.le_refl _⟩⟩
 case round =>
  rename_i J12 K13 hJ12 hK13
  obtain ⟨x4, rfl, HL11, hk10, hu6, hz7⟩ := hrel
  obtain ⟨w5, rfl⟩ : ∃ wo : World, wo = wr := ⟨_, rfl⟩
  obtain ⟨k9, rfl⟩ | rfl : (∃ k, gk = k + 1) ∨ gk = 0 := by rcases gk with _ | k; exact .inr rfl; exact .inl ⟨k, rfl⟩
  case inr => exact absurd HL11.out (by simp [impl_arePoints.l0])
  have H := HL11.out
  clear HL11
  rw [impl_arePoints.l0] at H
  refine wp_seq_k (fun K14 hK14 => ?_)
  refine wp_region_lit ?_
  refine wpList_plain rfl (fun Ko hKo => ?_)
  go_simp
  refine hKo _ _ ?_
  clear hKo Ko
  try simp only [Act.put, nm1, nm2, nm3, i64_w]
  refine wpList_nil ?_
  (try simp only [Exit.then, Exit.inBlock, ↓reduceIte, Nat.reduceEqDiff])
  refine hK14 _ _ ?_
  refine wp_seq_k (fun K15 hK15 => ?_)
  by_cases c16 : (decide (x4 < (a1.length : Int))) = true
  ·
   rw [if_pos c16] at H
   replace H := Option.bind_eq_some_iff.mp H
   obtain ⟨⟨t19, t20⟩, A21, H⟩ := H
   replace A21 := Aside0.mk A21
   try dsimp only at H
   replace H := Option.bind_eq_some_iff.mp H
   obtain ⟨t32, A33, H⟩ := H
   replace A33 := Aside0.mk A33
   try dsimp only at H
   try simp only [c16, Bool.not_true, Bool.not_false]
   refine wp_cond_true rfl ?_
   refine wp_skip ?_
   (try simp only [Exit.then, Exit.inBlock, ↓reduceIte, Nat.reduceEqDiff])
   refine hK15 _ _ ?_
   refine wp_seq_k (fun K17 hK17 => ?_)
   refine wp_block ?_
   refine wp_seq_k (fun K18 hK18 => ?_)
   refine wp_region_lit ?_
   refine step_index e2 (T := 26) (wanted_none rfl) rfl (by kernel_rfl) (by kernel_rfl) rfl rfl rfl (ha1.up hu6.out) A21.out ?_
   intro ad22 hat he
   have he23 := Aside0.mk he
   have hat24 := Aside0.mk hat
   clear he hat
   simp only [Act.put, nm1, nm2, nm3, i64_w]
   have cl0 := he23.out 0 _ rfl
   rw [addr_add0] at cl0
   have cl1 : World.cell? _ ⟨ad22.block, ad22.off + 1, none⟩ = some _ := he23.out 1 _ rfl
   refine wpList_plain rfl (fun Ko hKo => ?_)
   go_simp
   refine hKo _ _ ?_
   clear hKo Ko
   clear cl0 cl1
   try simp only [Act.put, nm1, nm2, nm3, i64_w]
   refine step_new (cs := [.int .i64 0, .int .i64 0]) (T := 26) (f := fun b => .pointer (some ⟨b, 0, none⟩)) rfl (by first | (go_simp; done) | (go_simp; rfl)) ?_
   intro b25 w26 hu lb hb25
   simp only [Act.put, nm1, nm2, nm3, i64_w]
   have lbb25 := Aside0.mk lb
   have ltb25 := Aside0.mk hb25.lt
   clear lb
   have hu27 := Aside0.mk hu
   clear hu
   have hB0 := hb25
   have cl0 := hB0.cell (o := 0) rfl
   have fr0 := hB0.free 0
   have cl1 := hB0.cell (o := 1) rfl
   have fr1 := hB0.free 1
   refine step_store (b := b25) (cs' := [.int .i64 t19, .int .i64 t20]) (T := 26) (W' := ((w26.setCell ⟨b25, 0, none⟩ (.int .i64 t19)).setCell ⟨b25, 1, none⟩ (.int .i64 t20))) rfl rfl (by first | (go_simp; done) | (go_simp; rfl)) (((Sto.refl _ _).setCell 0 _).setCell 1 _) (((hB0).setCell 0 _).setCell 1 _) ?_
   clear hB0 cl0 fr0 cl1 fr1
   intro w28 hs hb30
   have hs29 := Aside0.mk hs
   clear hs
   refine wpList_nil ?_
   (try simp only [Exit.then, Exit.inBlock, ↓reduceIte, Nat.reduceEqDiff])
   refine hK18 _ _ ?_
   refine wp_seq_k (fun K31 hK31 => ?_)
   refine wp_region_lit ?_
   refine wpList_plain rfl (fun Ko hKo => ?_)
   go_simp
   refine hKo _ _ ?_
   clear hKo Ko
   try simp only [Act.put, nm1, nm2, nm3, i64_w]
   have cl0 := hb30.cell (o := 0) rfl
   have cl1 := hb30.cell (o := 1) rfl
   refine wpList_plain rfl (fun Ko hKo => ?_)
   go_simp
   refine hKo _ _ ?_
   clear hKo Ko
   clear cl0 cl1
   try simp only [Act.put, nm1, nm2, nm3, i64_w]
   refine step_call (wanted_none rfl) (by first | (go_simp; done) | (go_simp; rfl)) (impl_isPoint.calls K a0 t19 t20 t32 w28  A33.out) ?_
   rintro e w34 ⟨rfl, hu⟩
   have hu35 := Aside0.mk hu
   clear hu
   refine ⟨_, rfl, ?_⟩
   simp only [Act.put, nm1, nm2, nm3, i64_w]
   refine wpList_plain rfl (fun Ko hKo => ?_)
   go_simp
   refine hKo _ _ ?_
   clear hKo Ko
   try simp only [Act.put, nm1, nm2, nm3, i64_w]
   refine wpList_nil ?_
   (try simp only [Exit.then, Exit.inBlock, ↓reduceIte, Nat.reduceEqDiff])
   refine hK31 _ _ ?_
   have hm37 := Aside0.mk (((hu6.out.trans hu27.out).sto (Nat.le_trans ((Nat.le_trans (Nat.le_refl _) hz7.out)) lbb25.out) hs29.out).trans hu35.out)
   have hm38 := Aside0.mk (Nat.le_trans ((Nat.le_trans ((Nat.le_trans ((Nat.le_trans (Nat.le_refl _) hz7.out)) hu27.out.size)) (Nat.le_of_eq hs29.out.size.symm))) hu35.out.size)
   by_cases c36 : (t32) = true
   ·
    rw [if_pos c36] at H
    subst c36
    have HL39 := Aside0.mk H
    clear H
    refine wp_cond_false rfl ?_
    refine wp_skip ?_
    (try simp only [Exit.then, Exit.inBlock, ↓reduceIte, Nat.reduceEqDiff])
    refine hK17 _ _ ?_
    refine wp_region_lit ?_
    refine wpList_plain rfl (fun Ko hKo => ?_)
    go_simp
    refine hKo _ _ ?_
    clear hKo Ko
    try simp only [Act.put, nm1, nm2, nm3, i64_w]
    refine wpList_plain rfl (fun Ko hKo => ?_)
    go_simp
    refine hKo _ _ ?_
    clear hKo Ko
    try simp only [Act.put, nm1, nm2, nm3, i64_w]
    refine wpList_nil ?_
    (try simp only [Exit.then, Exit.inBlock, ↓reduceIte, Nat.reduceEqDiff])
    refine hK13 _ _ ?_
    go_roundg k9
    case measure => exact Nat.lt_succ_self _
    case rel => exact ⟨wrap64 (x4 + 1), (by first | rfl | simp), HL39, ⟨by have := hk10.out; omega⟩, ⟨hm37.out⟩, ⟨hm38.out⟩⟩
   ·
    rw [if_neg c36] at H
    replace c36 := Bool.eq_false_iff.mpr c36
    subst c36
    obtain rfl := Option.some.inj H
    refine wp_cond_true rfl ?_
    refine wp_seq_k (fun K40 hK40 => ?_)
    refine wp_region_lit ?_
    refine wpList_plain rfl (fun Ko hKo => ?_)
    go_simp
    refine hKo _ _ ?_
    clear hKo Ko
    try simp only [Act.put, nm1, nm2, nm3, i64_w]
    refine wpList_nil ?_
    (try simp only [Exit.then, Exit.inBlock, ↓reduceIte, Nat.reduceEqDiff])
    refine hK40 _ _ ?_
    refine wp_ret ?_
    (try simp only [Exit.then, Exit.inBlock, ↓reduceIte, Nat.reduceEqDiff])
    refine hQf _ _ _ ?_
    exact bodyPost_ret (v := .bool false) (by first | rfl | (simp [results, Try.results104, go_sem]; done) | (simp [results, Try.results104, go_sem]; rfl)) rfl ⟨rfl, hm37.out⟩
  ·
   rw [if_neg c16] at H
   replace c16 := Bool.eq_false_iff.mpr c16
   obtain rfl := Option.some.inj H
   try simp only [c16, Bool.not_true, Bool.not_false]
   refine wp_cond_false rfl ?_
   refine wp_exit ?_
   (try simp only [Exit.then, Exit.inBlock, ↓reduceIte, Nat.reduceEqDiff])
   refine hK2 _ _ ?_
   refine wp_seq_k (fun K41 hK41 => ?_)
   refine wp_region_lit ?_
   refine wpList_plain rfl (fun Ko hKo => ?_)
   go_simp
   refine hKo _ _ ?_
   clear hKo Ko
   try simp only [Act.put, nm1, nm2, nm3, i64_w]
   refine wpList_nil ?_
   (try simp only [Exit.then, Exit.inBlock, ↓reduceIte, Nat.reduceEqDiff])
   refine hK41 _ _ ?_
   refine wp_ret ?_
   (try simp only [Exit.then, Exit.inBlock, ↓reduceIte, Nat.reduceEqDiff])
   refine hQf _ _ _ ?_
   exact bodyPost_ret (v := .bool true) (by first | rfl | (simp [results, Try.results104, go_sem]; done) | (simp [results, Try.results104, go_sem]; rfl)) rfl ⟨rfl, hu6.out⟩

set_option maxHeartbeats 40000000 in
set_option maxRecDepth 100000 in
theorem impl_MovesBetween_1.calls (K : Nat) (bf0 : Nat) (f0_0 : Int) (bf1 : Nat) (f1_0 : Int) (bf2 : Nat) (f2_0 : Int) (f2_1 : Int) (bf3 : Nat) (f3_0 : Int) (f3_1 : Int) (bf4 : Nat) (f4_0 : Int) (f4_1 : Int) (bf5 : Nat) (f5_0 : Int) (f5_1 : Int) (r0 : Bool) (w : World) (hf0 : Blk w bf0 [.int .i64 f0_0] 2) (hf1 : Blk w bf1 [.int .i64 f1_0] 2) (hf2 : Blk w bf2 [.int .i64 f2_0, .int .i64 f2_1] 26) (hf3 : Blk w bf3 [.int .i64 f3_0, .int .i64 f3_1] 26) (hf4 : Blk w bf4 [.int .i64 f4_0, .int .i64 f4_1] 26) (hf5 : Blk w bf5 [.int .i64 f5_0, .int .i64 f5_1] 26) (h : impl_MovesBetween_1.f K f0_0 f1_0 f2_0 f2_1 f3_0 f3_1 f4_0 f4_1 f5_0 f5_1 = some (r0)) :
    Calls Try.prog 103 #[.pointer (some ⟨bf0, 0, none⟩), .pointer (some ⟨bf1, 0, none⟩), .pointer (some ⟨bf2, 0, none⟩), .pointer (some ⟨bf3, 0, none⟩), .pointer (some ⟨bf4, 0, none⟩), .pointer (some ⟨bf5, 0, none⟩)] w fun e w' => e = .returned (.bool r0) ∧ Up w w' := by
 have H : (((impl_isColour.f K f0_0).bind fun t3 => (if t3 = true then ((impl_arePoints.f K f1_0 ([(f2_0, f2_1), (f3_0, f3_1), (f4_0, f4_1), (f5_0, f5_1)])).bind fun t11 => some t11) else some false)) : Option (Bool)) = some (r0) := h
 clear h
 replace H := Option.bind_eq_some_iff.mp H
 obtain ⟨t3, A4, H⟩ := H
 replace A4 := Aside0.mk A4
 try dsimp only at H
 have ltbf0 := Aside0.mk hf0.lt
 have ltbf1 := Aside0.mk hf1.lt
 have ltbf2 := Aside0.mk hf2.lt
 have ltbf3 := Aside0.mk hf3.lt
 have ltbf4 := Aside0.mk hf4.lt
 have ltbf5 := Aside0.mk hf5.lt
 go_enter Try.func103, Try.ntmps103
 refine wp_hide (fun Qf hQf => ?_)
 refine wp_seq_k (fun K1 hK1 => ?_)
 refine wp_region_lit ?_
 refine wpList_plain rfl (fun Ko hKo => ?_)
 go_simp
 refine hKo _ _ ?_
 clear hKo Ko
 try simp only [Act.put, nm1, nm2, nm3, i64_w]
 refine wpList_nil ?_
 (try simp only [Exit.then, Exit.inBlock, ↓reduceIte, Nat.reduceEqDiff])
 refine hK1 _ _ ?_
 refine wp_seq_k (fun K2 hK2 => ?_)
 refine wp_region_lit ?_
 have cl0 := hf0.cell (o := 0) rfl
 refine wpList_plain rfl (fun Ko hKo => ?_)
 go_simp
 refine hKo _ _ ?_
 clear hKo Ko
 clear cl0
 try simp only [Act.put, nm1, nm2, nm3, i64_w]
 refine step_call (wanted_none rfl) (by first | (go_simp; done) | (go_simp; rfl)) (impl_isColour.calls K f0_0 t3 w  A4.out) ?_
 rintro e w5 ⟨rfl, hu⟩
 have hu6 := Aside0.mk hu
 clear hu
 refine ⟨_, rfl, ?_⟩
 simp only [Act.put, nm1, nm2, nm3, i64_w]
 refine wpList_plain rfl (fun Ko hKo => ?_)
 go_simp
 refine hKo _ _ ?_
 clear hKo Ko
 try simp only [Act.put, nm1, nm2, nm3, i64_w]
 by_cases c7 : (t3) = true
 ·
  rw [if_pos c7] at H
  subst c7
  replace H := Option.bind_eq_some_iff.mp H
  obtain ⟨t11, A12, H⟩ := H
  replace A12 := Aside0.mk A12
  try dsimp only at H
  obtain rfl := Option.some.inj H
  have cl0 := (hf1.up hu6.out).cell (o := 0) rfl
  refine wpList_step (fun Ko hKo => ?_)
  go_simp
  refine hKo _ _ ?_
  clear hKo Ko
  clear cl0
  try simp only [Act.put, nm1, nm2, nm3, i64_w]
  have cl0 := (hf2.up hu6.out).cell (o := 0) rfl
  have cl1 := (hf2.up hu6.out).cell (o := 1) rfl
  refine wpList_step (fun Ko hKo => ?_)
  go_simp
  refine hKo _ _ ?_
  clear hKo Ko
  clear cl0 cl1
  try simp only [Act.put, nm1, nm2, nm3, i64_w]
  have cl0 := (hf3.up hu6.out).cell (o := 0) rfl
  have cl1 := (hf3.up hu6.out).cell (o := 1) rfl
  refine wpList_step (fun Ko hKo => ?_)
  go_simp
  refine hKo _ _ ?_
  clear hKo Ko
  clear cl0 cl1
  try simp only [Act.put, nm1, nm2, nm3, i64_w]
  have cl0 := (hf4.up hu6.out).cell (o := 0) rfl
  have cl1 := (hf4.up hu6.out).cell (o := 1) rfl
  refine wpList_step (fun Ko hKo => ?_)
  go_simp
  refine hKo _ _ ?_
  clear hKo Ko
  clear cl0 cl1
  try simp only [Act.put, nm1, nm2, nm3, i64_w]
  have cl0 := (hf5.up hu6.out).cell (o := 0) rfl
  have cl1 := (hf5.up hu6.out).cell (o := 1) rfl
  refine wpList_step (fun Ko hKo => ?_)
  go_simp
  refine hKo _ _ ?_
  clear hKo Ko
  clear cl0 cl1
  try simp only [Act.put, nm1, nm2, nm3, i64_w]
  refine step_new_yes (cs := [.int .i64 f2_0, .int .i64 f2_1, .int .i64 f3_0, .int .i64 f3_1, .int .i64 f4_0, .int .i64 f4_1, .int .i64 f5_0, .int .i64 f5_1]) (T := 26) (f := fun b => .slice (some ⟨b, 0, none⟩) 4 4) rfl (by first | (go_simp; done) | (go_simp; rfl)) ?_
  intro b8 w9 hu lb hb8
  simp only [Act.put, nm1, nm2, nm3, i64_w]
  have lbb8 := Aside0.mk lb
  have ltb8 := Aside0.mk hb8.lt
  clear lb
  have hu10 := Aside0.mk hu
  clear hu
  refine step_call rfl (by first | (go_simp; done) | (go_simp; rfl)) (impl_arePoints.calls K f1_0 (some ⟨b8, 0, none⟩) 4 ([(f2_0, f2_1), (f3_0, f3_1), (f4_0, f4_1), (f5_0, f5_1)]) t11 w9 (Rd.of_blk (E := e2) (xs := [(f2_0, f2_1), (f3_0, f3_1), (f4_0, f4_1), (f5_0, f5_1)]) (o := 0) hb8 (by simp) (fun j u hu => by rcases j with _ | _ | _ | _ | _ | _ | _ | _ | j <;> simp_all [Enc.flat, e2])) A12.out) ?_
  rintro e w13 ⟨rfl, hu⟩
  have hu14 := Aside0.mk hu
  clear hu
  refine ⟨_, rfl, ?_⟩
  simp only [Act.put, nm1, nm2, nm3, i64_w]
  refine wpList_plain rfl (fun Ko hKo => ?_)
  go_simp
  refine hKo _ _ ?_
  clear hKo Ko
  try simp only [Act.put, nm1, nm2, nm3, i64_w]
  refine wpList_plain rfl (fun Ko hKo => ?_)
  go_simp
  refine hKo _ _ ?_
  clear hKo Ko
  try simp only [Act.put, nm1, nm2, nm3, i64_w]
  refine wpList_nil ?_
  (try simp only [Exit.then, Exit.inBlock, ↓reduceIte, Nat.reduceEqDiff])
  refine hK2 _ _ ?_
  refine wp_ret ?_
  (try simp only [Exit.then, Exit.inBlock, ↓reduceIte, Nat.reduceEqDiff])
  refine hQf _ _ _ ?_
  exact bodyPost_ret (v := .bool t11) (by first | rfl | (simp [results, Try.results103, go_sem]; done) | (simp [results, Try.results103, go_sem]; rfl)) rfl ⟨rfl, ((hu6.out.trans hu10.out).trans hu14.out)⟩
 ·
  rw [if_neg c7] at H
  replace c7 := Bool.eq_false_iff.mpr c7
  subst c7
  obtain rfl := Option.some.inj H
  refine step_no rfl ?_
  simp only [Act.put, nm1, nm2, nm3, i64_w]
  refine step_no rfl ?_
  simp only [Act.put, nm1, nm2, nm3, i64_w]
  refine step_no rfl ?_
  simp only [Act.put, nm1, nm2, nm3, i64_w]
  refine step_no rfl ?_
  simp only [Act.put, nm1, nm2, nm3, i64_w]
  refine step_no rfl ?_
  simp only [Act.put, nm1, nm2, nm3, i64_w]
  refine step_no rfl ?_
  simp only [Act.put, nm1, nm2, nm3, i64_w]
  refine step_no rfl ?_
  simp only [Act.put, nm1, nm2, nm3, i64_w]
  refine wpList_plain rfl (fun Ko hKo => ?_)
  go_simp
  refine hKo _ _ ?_
  clear hKo Ko
  try simp only [Act.put, nm1, nm2, nm3, i64_w]
  refine wpList_plain rfl (fun Ko hKo => ?_)
  go_simp
  refine hKo _ _ ?_
  clear hKo Ko
  try simp only [Act.put, nm1, nm2, nm3, i64_w]
  refine wpList_nil ?_
  (try simp only [Exit.then, Exit.inBlock, ↓reduceIte, Nat.reduceEqDiff])
  refine hK2 _ _ ?_
  refine wp_ret ?_
  (try simp only [Exit.then, Exit.inBlock, ↓reduceIte, Nat.reduceEqDiff])
  refine hQf _ _ _ ?_
  exact bodyPost_ret (v := .bool false) (by first | rfl | (simp [results, Try.results103, go_sem]; done) | (simp [results, Try.results103, go_sem]; rfl)) rfl ⟨rfl, hu6.out⟩

set_option maxHeartbeats 40000000 in
set_option maxRecDepth 100000 in
theorem impl_asked__impl_MovesBetween_1.calls (K : Nat) (a0 : Int) (bc1_0 : Nat) (c1_0_0 : Int) (bc1_1 : Nat) (c1_1_0 : Int) (bc1_2 : Nat) (c1_2_0 : Int) (c1_2_1 : Int) (bc1_3 : Nat) (c1_3_0 : Int) (c1_3_1 : Int) (bc1_4 : Nat) (c1_4_0 : Int) (c1_4_1 : Int) (bc1_5 : Nat) (c1_5_0 : Int) (c1_5_1 : Int) (r0 : Int) (w : World) (hc1_0 : Blk w bc1_0 [.int .i64 c1_0_0] 2) (hc1_1 : Blk w bc1_1 [.int .i64 c1_1_0] 2) (hc1_2 : Blk w bc1_2 [.int .i64 c1_2_0, .int .i64 c1_2_1] 26) (hc1_3 : Blk w bc1_3 [.int .i64 c1_3_0, .int .i64 c1_3_1] 26) (hc1_4 : Blk w bc1_4 [.int .i64 c1_4_0, .int .i64 c1_4_1] 26) (hc1_5 : Blk w bc1_5 [.int .i64 c1_5_0, .int .i64 c1_5_1] 26) (h : impl_asked__impl_MovesBetween_1.f K a0 c1_0_0 c1_1_0 c1_2_0 c1_2_1 c1_3_0 c1_3_1 c1_4_0 c1_4_1 c1_5_0 c1_5_1 = some (r0)) :
    Calls Try.prog 49 #[.int .i64 a0, .func (.func 103) #[] #[.pointer (some ⟨bc1_0, 0, none⟩), .pointer (some ⟨bc1_1, 0, none⟩), .pointer (some ⟨bc1_2, 0, none⟩), .pointer (some ⟨bc1_3, 0, none⟩), .pointer (some ⟨bc1_4, 0, none⟩), .pointer (some ⟨bc1_5, 0, none⟩)]] w fun e w' => e = .returned (.int .i64 r0) ∧ Up w w' := by
 have H : (((impl_IsField.f K a0).bind fun t4 => (if t4 = true then ((impl_MovesBetween_1.f K c1_0_0 c1_1_0 c1_2_0 c1_2_1 c1_3_0 c1_3_1 c1_4_0 c1_4_1 c1_5_0 c1_5_1).bind fun t11 => (if t11 = true then some 0 else some 2)) else some 1)) : Option (Int)) = some (r0) := h
 clear h
 replace H := Option.bind_eq_some_iff.mp H
 obtain ⟨t4, A5, H⟩ := H
 replace A5 := Aside0.mk A5
 try dsimp only at H
 have ltbc1_0 := Aside0.mk hc1_0.lt
 have ltbc1_1 := Aside0.mk hc1_1.lt
 have ltbc1_2 := Aside0.mk hc1_2.lt
 have ltbc1_3 := Aside0.mk hc1_3.lt
 have ltbc1_4 := Aside0.mk hc1_4.lt
 have ltbc1_5 := Aside0.mk hc1_5.lt
 go_enter Try.func49, Try.ntmps49
 refine wp_hide (fun Qf hQf => ?_)
 refine wp_seq_k (fun K1 hK1 => ?_)
 refine wp_region_lit ?_
 refine wpList_plain rfl (fun Ko hKo => ?_)
 go_simp
 refine hKo _ _ ?_
 clear hKo Ko
 try simp only [Act.put, nm1, nm2, nm3, i64_w]
 refine wpList_nil ?_
 (try simp only [Exit.then, Exit.inBlock, ↓reduceIte, Nat.reduceEqDiff])
 refine hK1 _ _ ?_
 refine wp_seq_k (fun K2 hK2 => ?_)
 refine wp_seq_k (fun K3 hK3 => ?_)
 refine wp_region_lit ?_
 refine wpList_plain rfl (fun Ko hKo => ?_)
 go_simp
 refine hKo _ _ ?_
 clear hKo Ko
 try simp only [Act.put, nm1, nm2, nm3, i64_w]
 refine step_call (wanted_none rfl) (by first | (go_simp; done) | (go_simp; rfl)) (impl_IsField.calls K a0 t4 w  A5.out) ?_
 rintro e w6 ⟨rfl, hu⟩
 have hu7 := Aside0.mk hu
 clear hu
 refine ⟨_, rfl, ?_⟩
 simp only [Act.put, nm1, nm2, nm3, i64_w]
 refine wpList_plain rfl (fun Ko hKo => ?_)
 go_simp
 refine hKo _ _ ?_
 clear hKo Ko
 try simp only [Act.put, nm1, nm2, nm3, i64_w]
 refine wpList_nil ?_
 (try simp only [Exit.then, Exit.inBlock, ↓reduceIte, Nat.reduceEqDiff])
 refine hK3 _ _ ?_
 by_cases c8 : (t4) = true
 ·
  rw [if_pos c8] at H
  subst c8
  replace H := Option.bind_eq_some_iff.mp H
  obtain ⟨t11, A12, H⟩ := H
  replace A12 := Aside0.mk A12
  try dsimp only at H
  refine wp_cond_false rfl ?_
  refine wp_skip ?_
  (try simp only [Exit.then, Exit.inBlock, ↓reduceIte, Nat.reduceEqDiff])
  refine hK2 _ _ ?_
  refine wp_seq_k (fun K9 hK9 => ?_)
  refine wp_seq_k (fun K10 hK10 => ?_)
  refine wp_region_lit ?_
  refine wpList_plain rfl (fun Ko hKo => ?_)
  go_simp
  refine hKo _ _ ?_
  clear hKo Ko
  try simp only [Act.put, nm1, nm2, nm3, i64_w]
  refine step_call (wanted_none rfl) (by first | (go_simp; done) | (go_simp; rfl)) (impl_MovesBetween_1.calls K bc1_0 c1_0_0 bc1_1 c1_1_0 bc1_2 c1_2_0 c1_2_1 bc1_3 c1_3_0 c1_3_1 bc1_4 c1_4_0 c1_4_1 bc1_5 c1_5_0 c1_5_1 t11 w6 (hc1_0.up hu7.out) (hc1_1.up hu7.out) (hc1_2.up hu7.out) (hc1_3.up hu7.out) (hc1_4.up hu7.out) (hc1_5.up hu7.out) A12.out) ?_
  rintro e w13 ⟨rfl, hu⟩
  have hu14 := Aside0.mk hu
  clear hu
  refine ⟨_, rfl, ?_⟩
  simp only [Act.put, nm1, nm2, nm3, i64_w]
  refine wpList_plain rfl (fun Ko hKo => ?_)
  go_simp
  refine hKo _ _ ?_
  clear hKo Ko
  try simp only [Act.put, nm1, nm2, nm3, i64_w]
  refine wpList_nil ?_
  (try simp only [Exit.then, Exit.inBlock, ↓reduceIte, Nat.reduceEqDiff])
  refine hK10 _ _ ?_
  by_cases c15 : (t11) = true
  ·
   rw [if_pos c15] at H
   subst c15
   obtain rfl := Option.some.inj H
   refine wp_cond_false rfl ?_
   refine wp_skip ?_
   (try simp only [Exit.then, Exit.inBlock, ↓reduceIte, Nat.reduceEqDiff])
   refine hK9 _ _ ?_
   refine wp_seq_k (fun K16 hK16 => ?_)
   refine wp_region_lit ?_
   refine wpList_plain rfl (fun Ko hKo => ?_)
   go_simp
   refine hKo _ _ ?_
   clear hKo Ko
   try simp only [Act.put, nm1, nm2, nm3, i64_w]
   refine wpList_nil ?_
   (try simp only [Exit.then, Exit.inBlock, ↓reduceIte, Nat.reduceEqDiff])
   refine hK16 _ _ ?_
   refine wp_ret ?_
   (try simp only [Exit.then, Exit.inBlock, ↓reduceIte, Nat.reduceEqDiff])
   refine hQf _ _ _ ?_
   exact bodyPost_ret (v := .int .i64 0) (by first | rfl | (simp [results, Try.results49, go_sem]; done) | (simp [results, Try.results49, go_sem]; rfl)) rfl ⟨rfl, (hu7.out.trans hu14.out)⟩
  ·
   rw [if_neg c15] at H
   replace c15 := Bool.eq_false_iff.mpr c15
   subst c15
   obtain rfl := Option.some.inj H
   refine wp_cond_true rfl ?_
   refine wp_seq_k (fun K17 hK17 => ?_)
   refine wp_region_lit ?_
   refine wpList_plain rfl (fun Ko hKo => ?_)
   go_simp
   refine hKo _ _ ?_
   clear hKo Ko
   try simp only [Act.put, nm1, nm2, nm3, i64_w]
   refine wpList_nil ?_
   (try simp only [Exit.then, Exit.inBlock, ↓reduceIte, Nat.reduceEqDiff])
   refine hK17 _ _ ?_
   refine wp_ret ?_
   (try simp only [Exit.then, Exit.inBlock, ↓reduceIte, Nat.reduceEqDiff])
   refine hQf _ _ _ ?_
   exact bodyPost_ret (v := .int .i64 2) (by first | rfl | (simp [results, Try.results49, go_sem]; done) | (simp [results, Try.results49, go_sem]; rfl)) rfl ⟨rfl, (hu7.out.trans hu14.out)⟩
 ·
  rw [if_neg c8] at H
  replace c8 := Bool.eq_false_iff.mpr c8
  subst c8
  obtain rfl := Option.some.inj H
  refine wp_cond_true rfl ?_
  refine wp_seq_k (fun K18 hK18 => ?_)
  refine wp_region_lit ?_
  refine wpList_plain rfl (fun Ko hKo => ?_)
  go_simp
  refine hKo _ _ ?_
  clear hKo Ko
  try simp only [Act.put, nm1, nm2, nm3, i64_w]
  refine wpList_nil ?_
  (try simp only [Exit.then, Exit.inBlock, ↓reduceIte, Nat.reduceEqDiff])
  refine hK18 _ _ ?_
  refine wp_ret ?_
  (try simp only [Exit.then, Exit.inBlock, ↓reduceIte, Nat.reduceEqDiff])
  refine hQf _ _ _ ?_
  exact bodyPost_ret (v := .int .i64 1) (by first | rfl | (simp [results, Try.results49, go_sem]; done) | (simp [results, Try.results49, go_sem]; rfl)) rfl ⟨rfl, hu7.out⟩

set_option maxHeartbeats 40000000 in
set_option maxRecDepth 100000 in
theorem impl_rest.calls (K : Nat) (a0 : Int) (a1 : Int) (r0 : Int) (w : World)  (h : impl_rest.f K a0 a1 = some (r0)) :
    Calls Try.prog 70 #[.int .i64 a0, .int .i64 a1] w fun e w' => e = .returned (.int .i64 r0) ∧ Up w w' := by
 have H : ((if (a0 == 0) = true then none else some (Int.tmod (wrap64 ((Int.tmod a1 a0) + a0)) a0)) : Option (Int)) = some (r0) := h
 clear h
 go_enter Try.func70, Try.ntmps70
 refine wp_hide (fun Qf hQf => ?_)
 refine wp_seq_k (fun K1 hK1 => ?_)
 refine wp_region_lit ?_
 refine wpList_plain rfl (fun Ko hKo => ?_)
 go_simp
 refine hKo _ _ ?_
 clear hKo Ko
 try simp only [Act.put, nm1, nm2, nm3, i64_w]
 refine wpList_nil ?_
 (try simp only [Exit.then, Exit.inBlock, ↓reduceIte, Nat.reduceEqDiff])
 refine hK1 _ _ ?_
 refine wp_seq_k (fun K2 hK2 => ?_)
 refine wp_region_lit ?_
 refine wpList_plain rfl (fun Ko hKo => ?_)
 go_simp
 refine hKo _ _ ?_
 clear hKo Ko
 try simp only [Act.put, nm1, nm2, nm3, i64_w]
 refine wpList_plain rfl (fun Ko hKo => ?_)
 go_simp
 refine hKo _ _ ?_
 clear hKo Ko
 try simp only [Act.put, nm1, nm2, nm3, i64_w]
 by_cases c3 : (a0 == 0) = true
 ·
  rw [if_pos c3] at H
  have c3n : (a0 != 0) = false := by rw [bne, c3]; rfl
  exact absurd H (by simp)
 ·
  rw [if_neg c3] at H
  replace c3 := Bool.eq_false_iff.mpr c3
  have c3n : (a0 != 0) = true := by rw [bne, c3]; rfl
  have c3p : ¬ a0 = 0 := fun e => by simp [e] at c3
  obtain rfl := Option.some.inj H
  try simp only [c3, c3n, Bool.not_true, Bool.not_false]
  refine wpList_plain rfl (fun Ko hKo => ?_)
  go_simp
  refine hKo _ _ ?_
  clear hKo Ko
  try simp only [Act.put, nm1, nm2, nm3, i64_w]
  refine wpList_plain rfl (fun Ko hKo => ?_)
  go_simp
  refine hKo _ _ ?_
  clear hKo Ko
  try simp only [Act.put, nm1, nm2, nm3, i64_w]
  refine wpList_plain rfl (fun Ko hKo => ?_)
  go_simp
  refine hKo _ _ ?_
  clear hKo Ko
  try simp only [Act.put, nm1, nm2, nm3, i64_w]
  refine wpList_plain rfl (fun Ko hKo => ?_)
  go_simp
  refine hKo _ _ ?_
  clear hKo Ko
  try simp only [Act.put, nm1, nm2, nm3, i64_w]
  refine wpList_plain rfl (fun Ko hKo => ?_)
  go_simp
  refine hKo _ _ ?_
  clear hKo Ko
  try simp only [Act.put, nm1, nm2, nm3, i64_w]
  refine wpList_plain rfl (fun Ko hKo => ?_)
  go_simp
  refine hKo _ _ ?_
  clear hKo Ko
  try simp only [Act.put, nm1, nm2, nm3, i64_w]
  refine wpList_nil ?_
  (try simp only [Exit.then, Exit.inBlock, ↓reduceIte, Nat.reduceEqDiff])
  refine hK2 _ _ ?_
  refine wp_ret ?_
  (try simp only [Exit.then, Exit.inBlock, ↓reduceIte, Nat.reduceEqDiff])
  refine hQf _ _ _ ?_
  exact bodyPost_ret (v := .int .i64 (Int.tmod (wrap64 ((Int.tmod a1 a0) + a0)) a0)) (by first | rfl | (simp [results, Try.results70, go_sem]; done) | (simp [results, Try.results70, go_sem]; rfl)) rfl ⟨rfl, (Up.refl _)⟩

set_option maxHeartbeats 40000000 in
set_option maxRecDepth 100000 in
theorem impl_less.calls (K : Nat) (a0 : Int) (a1_0 : Int) (a1_1 : Int) (a2_0 : Int) (a2_1 : Int) (r0 : Int) (r1 : Int) (w : World)  (h : impl_less.f K a0 a1_0 a1_1 a2_0 a2_1 = some (r0, r1)) :
    Calls Try.prog 71 #[.int .i64 a0, .agg #[.int .i64 a1_0, .int .i64 a1_1], .agg #[.int .i64 a2_0, .int .i64 a2_1]] w fun e w' => e = .returned (.agg #[.int .i64 r0, .int .i64 r1]) ∧ Up w w' := by
 have H : (((impl_rest.f K a0 (wrap64 (a1_0 - a2_0))).bind fun t12 => ((impl_rest.f K a0 (wrap64 (a1_1 - a2_1))).bind fun t14 => some (t12, t14))) : Option (Int × Int)) = some (r0, r1) := h
 clear h
 replace H := Option.bind_eq_some_iff.mp H
 obtain ⟨t12, A13, H⟩ := H
 replace A13 := Aside0.mk A13
 try dsimp only at H
 replace H := Option.bind_eq_some_iff.mp H
 obtain ⟨t14, A15, H⟩ := H
 replace A15 := Aside0.mk A15
 try dsimp only at H
 simp only [Option.some.injEq, Prod.mk.injEq] at H
 obtain ⟨rfl, rfl⟩ := H
 go_enter Try.func71, Try.ntmps71
 refine wp_hide (fun Qf hQf => ?_)
 refine wp_seq_k (fun K1 hK1 => ?_)
 refine wp_region_lit ?_
 refine step_new (cs := [.int .i64 a1_0, .int .i64 a1_1]) (T := 26) (f := fun b => .pointer (some ⟨b, 0, none⟩)) rfl (by first | (go_simp; done) | (go_simp; rfl)) ?_
 intro b2 w3 hu lb hb2
 simp only [Act.put, nm1, nm2, nm3, i64_w]
 have lbb2 := Aside0.mk lb
 have ltb2 := Aside0.mk hb2.lt
 clear lb
 have hu4 := Aside0.mk hu
 clear hu
 refine step_new (cs := [.int .i64 a2_0, .int .i64 a2_1]) (T := 26) (f := fun b => .pointer (some ⟨b, 0, none⟩)) rfl (by first | (go_simp; done) | (go_simp; rfl)) ?_
 intro b5 w6 hu lb hb5
 simp only [Act.put, nm1, nm2, nm3, i64_w]
 have lbb5 := Aside0.mk lb
 have ltb5 := Aside0.mk hb5.lt
 clear lb
 have hu7 := Aside0.mk hu
 clear hu
 refine step_new (cs := [.int .i64 0, .int .i64 0]) (T := 26) (f := fun b => .pointer (some ⟨b, 0, none⟩)) rfl (by first | (go_simp; done) | (go_simp; rfl)) ?_
 intro b8 w9 hu lb hb8
 simp only [Act.put, nm1, nm2, nm3, i64_w]
 have lbb8 := Aside0.mk lb
 have ltb8 := Aside0.mk hb8.lt
 clear lb
 have hu10 := Aside0.mk hu
 clear hu
 refine wpList_nil ?_
 (try simp only [Exit.then, Exit.inBlock, ↓reduceIte, Nat.reduceEqDiff])
 refine hK1 _ _ ?_
 refine wp_seq_k (fun K11 hK11 => ?_)
 refine' wp_region_up 15 [Slot.det _, Slot.det _, Slot.det _, Slot.det _, Slot.det _, Slot.det _, Slot.det (.int .i64 t12), Slot.det _, Slot.det _, Slot.det _, Slot.det _, Slot.det _, Slot.det _, Slot.det (.int .i64 t14), Slot.det _] (by kernel_rfl) (by kernel_rfl) ?main
 case main =>
  simp only [List.take_succ_cons, List.take_zero]
  refine wpK_ops rfl (fun w1 hu => ?_) ?_
  · clear hu
    go_simp
    first | done | rfl
  simp only [Act.put, nm1, nm2, nm3, i64_w]
  refine wpK_ops rfl (fun w1 hu => ?_) ?_
  · clear hu
    go_simp
    first | done | rfl
  simp only [Act.put, nm1, nm2, nm3, i64_w]
  refine wpK_ops rfl (fun w1 hu => ?_) ?_
  · have cl0 := ((hb2.up (hu7.out.trans hu10.out)).up ((Up.refl _).drew.trans hu)).cell (o := 0) rfl
    go_simp
    first | done | rfl
  simp only [Act.put, nm1, nm2, nm3, i64_w]
  refine wpK_ops rfl (fun w1 hu => ?_) ?_
  · clear hu
    go_simp
    first | done | rfl
  simp only [Act.put, nm1, nm2, nm3, i64_w]
  refine wpK_ops rfl (fun w1 hu => ?_) ?_
  · have cl0 := ((hb5.up hu10.out).up ((Up.refl _).drew.trans hu)).cell (o := 0) rfl
    go_simp
    first | done | rfl
  simp only [Act.put, nm1, nm2, nm3, i64_w]
  refine wpK_ops rfl (fun w1 hu => ?_) ?_
  · clear hu
    go_simp
    first | done | rfl
  simp only [Act.put, nm1, nm2, nm3, i64_w]
  refine wpK_ops rfl (fun w1 hu => ?_) ?_
  · have hcl := (impl_rest.calls K a0 (wrap64 (a1_0 - a2_0)) t12 w1  A13.out)
    clear hu
    replace hcl := Aside0.mk hcl
    go_simp
    exact hcl.out
  simp only [Act.put, nm1, nm2, nm3, i64_w]
  refine wpK_ops rfl (fun w1 hu => ?_) ?_
  · clear hu
    go_simp
    first | done | rfl
  simp only [Act.put, nm1, nm2, nm3, i64_w]
  refine wpK_ops rfl (fun w1 hu => ?_) ?_
  · clear hu
    go_simp
    first | done | rfl
  simp only [Act.put, nm1, nm2, nm3, i64_w]
  refine wpK_ops rfl (fun w1 hu => ?_) ?_
  · have cl0 := ((hb2.up (hu7.out.trans hu10.out)).up ((Up.refl _).drew.trans hu)).cell (o := 1) rfl
    go_simp
    first | done | rfl
  simp only [Act.put, nm1, nm2, nm3, i64_w]
  refine wpK_ops rfl (fun w1 hu => ?_) ?_
  · clear hu
    go_simp
    first | done | rfl
  simp only [Act.put, nm1, nm2, nm3, i64_w]
  refine wpK_ops rfl (fun w1 hu => ?_) ?_
  · have cl0 := ((hb5.up hu10.out).up ((Up.refl _).drew.trans hu)).cell (o := 1) rfl
    go_simp
    first | done | rfl
  simp only [Act.put, nm1, nm2, nm3, i64_w]
  refine wpK_ops rfl (fun w1 hu => ?_) ?_
  · clear hu
    go_simp
    first | done | rfl
  simp only [Act.put, nm1, nm2, nm3, i64_w]
  refine wpK_ops rfl (fun w1 hu => ?_) ?_
  · have hcl := (impl_rest.calls K a0 (wrap64 (a1_1 - a2_1)) t14 w1  A15.out)
    clear hu
    replace hcl := Aside0.mk hcl
    go_simp
    exact hcl.out
  simp only [Act.put, nm1, nm2, nm3, i64_w]
  refine wpK_ops rfl (fun w1 hu => ?_) ?_
  · clear hu
    go_simp
    first | done | rfl
  simp only [Act.put, nm1, nm2, nm3, i64_w]
  refine wpK_nil ?_
  intro w16 hu hap
  simp only [List.drop_succ_cons, List.drop_zero]
  replace hu := (Up.refl _).drew.trans hu
  clear hap
  have hu17 := Aside0.mk hu
  clear hu
  have hB0 := (hb8.up hu17.out)
  have cl0 := hB0.cell (o := 0) rfl
  have fr0 := hB0.free 0
  have cl1 := hB0.cell (o := 1) rfl
  have fr1 := hB0.free 1
  refine step_store (b := b8) (cs' := [.int .i64 t12, .int .i64 t14]) (T := 26) (W' := ((w16.setCell ⟨b8, 0, none⟩ (.int .i64 t12)).setCell ⟨b8, 1, none⟩ (.int .i64 t14))) rfl rfl (by first | (go_simp; done) | (go_simp; rfl)) (((Sto.refl _ _).setCell 0 _).setCell 1 _) (((hB0).setCell 0 _).setCell 1 _) ?_
  clear hB0 cl0 fr0 cl1 fr1
  intro w18 hs hb20
  have hs19 := Aside0.mk hs
  clear hs
  refine wpList_nil ?_
  (try simp only [Exit.then, Exit.inBlock, ↓reduceIte, Nat.reduceEqDiff])
  refine hK11 _ _ ?_
  refine wp_ret ?_
  (try simp only [Exit.then, Exit.inBlock, ↓reduceIte, Nat.reduceEqDiff])
  refine hQf _ _ _ ?_
  have cr0 := hb20.cell (o := 0) rfl
  have cr1 := hb20.cell (o := 1) rfl
  exact bodyPost_ret (v := .agg #[.int .i64 t12, .int .i64 t14]) (by first | rfl | (simp [results, Try.results71, go_sem, cr0, cr1]; done) | (simp [results, Try.results71, go_sem, cr0, cr1]; rfl)) rfl ⟨rfl, ((((hu4.out.trans hu7.out).trans hu10.out).trans hu17.out).sto (Nat.le_trans ((Nat.le_trans (hu4.out.size) hu7.out.size)) lbb8.out) hs19.out)⟩

set_option maxHeartbeats 40000000 in
set_option maxRecDepth 100000 in
theorem impl_product.calls (K : Nat) (a0 : Int) (a1 : Int) (a2_0 : Int) (a2_1 : Int) (a3_0 : Int) (a3_1 : Int) (r0 : Int) (w : World)  (h : impl_product.f K a0 a1 a2_0 a2_1 a3_0 a3_1 = some (r0)) :
    Calls Try.prog 114 #[.int .i64 a0, .int .i64 a1, .agg #[.int .i64 a2_0, .int .i64 a2_1], .agg #[.int .i64 a3_0, .int .i64 a3_1]] w fun e w' => e = .returned (.int .i64 r0) ∧ Up w w' := by
 have H : ((if (a1 == 0) = true then ((impl_rest.f K a0 (wrap64 ((wrap64 (a2_0 * a3_0)) + (wrap64 (a2_1 * a3_1))))).bind fun t13 => some t13) else (if (a1 == 1) = true then ((impl_rest.f K a0 (wrap64 ((wrap64 (a2_0 * a3_0)) - (wrap64 (a2_1 * a3_1))))).bind fun t20 => some t20) else ((impl_rest.f K a0 (wrap64 ((wrap64 (a2_0 * a3_1)) + (wrap64 (a2_1 * a3_0))))).bind fun t25 => some t25))) : Option (Int)) = some (r0) := h
 clear h
 go_enter Try.func114, Try.ntmps114
 refine wp_hide (fun Qf hQf => ?_)
 refine wp_seq_k (fun K1 hK1 => ?_)
 refine wp_region_lit ?_
 refine step_new (cs := [.int .i64 a2_0, .int .i64 a2_1]) (T := 26) (f := fun b => .pointer (some ⟨b, 0, none⟩)) rfl (by first | (go_simp; done) | (go_simp; rfl)) ?_
 intro b2 w3 hu lb hb2
 simp only [Act.put, nm1, nm2, nm3, i64_w]
 have lbb2 := Aside0.mk lb
 have ltb2 := Aside0.mk hb2.lt
 clear lb
 have hu4 := Aside0.mk hu
 clear hu
 refine step_new (cs := [.int .i64 a3_0, .int .i64 a3_1]) (T := 26) (f := fun b => .pointer (some ⟨b, 0, none⟩)) rfl (by first | (go_simp; done) | (go_simp; rfl)) ?_
 intro b5 w6 hu lb hb5
 simp only [Act.put, nm1, nm2, nm3, i64_w]
 have lbb5 := Aside0.mk lb
 have ltb5 := Aside0.mk hb5.lt
 clear lb
 have hu7 := Aside0.mk hu
 clear hu
 refine wpList_plain rfl (fun Ko hKo => ?_)
 go_simp
 refine hKo _ _ ?_
 clear hKo Ko
 try simp only [Act.put, nm1, nm2, nm3, i64_w]
 refine wpList_nil ?_
 (try simp only [Exit.then, Exit.inBlock, ↓reduceIte, Nat.reduceEqDiff])
 refine hK1 _ _ ?_
 refine wp_seq_k (fun K8 hK8 => ?_)
 refine wp_seq_k (fun K9 hK9 => ?_)
 refine wp_region_lit ?_
 refine wpList_plain rfl (fun Ko hKo => ?_)
 go_simp
 refine hKo _ _ ?_
 clear hKo Ko
 try simp only [Act.put, nm1, nm2, nm3, i64_w]
 refine wpList_nil ?_
 (try simp only [Exit.then, Exit.inBlock, ↓reduceIte, Nat.reduceEqDiff])
 refine hK9 _ _ ?_
 refine wp_block ?_
 refine wp_seq_k (fun K10 hK10 => ?_)
 refine wp_region_lit ?_
 refine wpList_plain rfl (fun Ko hKo => ?_)
 go_simp
 refine hKo _ _ ?_
 clear hKo Ko
 try simp only [Act.put, nm1, nm2, nm3, i64_w]
 refine wpList_plain rfl (fun Ko hKo => ?_)
 go_simp
 refine hKo _ _ ?_
 clear hKo Ko
 try simp only [Act.put, nm1, nm2, nm3, i64_w]
 refine wpList_nil ?_
 (try simp only [Exit.then, Exit.inBlock, ↓reduceIte, Nat.reduceEqDiff])
 refine hK10 _ _ ?_
 by_cases c11 : (a1 == 0) = true
 ·
  rw [if_pos c11] at H
  have c11n : (a1 != 0) = false := by rw [bne, c11]; rfl
  replace H := Option.bind_eq_some_iff.mp H
  obtain ⟨t13, A14, H⟩ := H
  replace A14 := Aside0.mk A14
  try dsimp only at H
  obtain rfl := Option.some.inj H
  try simp only [c11, c11n, Bool.not_true, Bool.not_false]
  refine wp_cond_true rfl ?_
  refine wp_seq_k (fun K12 hK12 => ?_)
  refine wp_region_lit ?_
  refine wpList_plain rfl (fun Ko hKo => ?_)
  go_simp
  refine hKo _ _ ?_
  clear hKo Ko
  try simp only [Act.put, nm1, nm2, nm3, i64_w]
  refine wpList_plain rfl (fun Ko hKo => ?_)
  go_simp
  refine hKo _ _ ?_
  clear hKo Ko
  try simp only [Act.put, nm1, nm2, nm3, i64_w]
  have cl0 := (hb2.up hu7.out).cell (o := 0) rfl
  refine wpList_plain rfl (fun Ko hKo => ?_)
  go_simp
  refine hKo _ _ ?_
  clear hKo Ko
  clear cl0
  try simp only [Act.put, nm1, nm2, nm3, i64_w]
  refine wpList_plain rfl (fun Ko hKo => ?_)
  go_simp
  refine hKo _ _ ?_
  clear hKo Ko
  try simp only [Act.put, nm1, nm2, nm3, i64_w]
  have cl0 := hb5.cell (o := 0) rfl
  refine wpList_plain rfl (fun Ko hKo => ?_)
  go_simp
  refine hKo _ _ ?_
  clear hKo Ko
  clear cl0
  try simp only [Act.put, nm1, nm2, nm3, i64_w]
  refine wpList_plain rfl (fun Ko hKo => ?_)
  go_simp
  refine hKo _ _ ?_
  clear hKo Ko
  try simp only [Act.put, nm1, nm2, nm3, i64_w]
  refine wpList_plain rfl (fun Ko hKo => ?_)
  go_simp
  refine hKo _ _ ?_
  clear hKo Ko
  try simp only [Act.put, nm1, nm2, nm3, i64_w]
  have cl0 := (hb2.up hu7.out).cell (o := 1) rfl
  refine wpList_plain rfl (fun Ko hKo => ?_)
  go_simp
  refine hKo _ _ ?_
  clear hKo Ko
  clear cl0
  try simp only [Act.put, nm1, nm2, nm3, i64_w]
  refine wpList_plain rfl (fun Ko hKo => ?_)
  go_simp
  refine hKo _ _ ?_
  clear hKo Ko
  try simp only [Act.put, nm1, nm2, nm3, i64_w]
  have cl0 := hb5.cell (o := 1) rfl
  refine wpList_plain rfl (fun Ko hKo => ?_)
  go_simp
  refine hKo _ _ ?_
  clear hKo Ko
  clear cl0
  try simp only [Act.put, nm1, nm2, nm3, i64_w]
  refine wpList_plain rfl (fun Ko hKo => ?_)
  go_simp
  refine hKo _ _ ?_
  clear hKo Ko
  try simp only [Act.put, nm1, nm2, nm3, i64_w]
  refine wpList_plain rfl (fun Ko hKo => ?_)
  go_simp
  refine hKo _ _ ?_
  clear hKo Ko
  try simp only [Act.put, nm1, nm2, nm3, i64_w]
  refine step_call (wanted_none rfl) (by first | (go_simp; done) | (go_simp; rfl)) (impl_rest.calls K a0 (wrap64 ((wrap64 (a2_0 * a3_0)) + (wrap64 (a2_1 * a3_1)))) t13 w6  A14.out) ?_
  rintro e w15 ⟨rfl, hu⟩
  have hu16 := Aside0.mk hu
  clear hu
  refine ⟨_, rfl, ?_⟩
  simp only [Act.put, nm1, nm2, nm3, i64_w]
  refine wpList_plain rfl (fun Ko hKo => ?_)
  go_simp
  refine hKo _ _ ?_
  clear hKo Ko
  try simp only [Act.put, nm1, nm2, nm3, i64_w]
  refine wpList_nil ?_
  (try simp only [Exit.then, Exit.inBlock, ↓reduceIte, Nat.reduceEqDiff])
  refine hK12 _ _ ?_
  refine wp_ret ?_
  (try simp only [Exit.then, Exit.inBlock, ↓reduceIte, Nat.reduceEqDiff])
  refine hQf _ _ _ ?_
  exact bodyPost_ret (v := .int .i64 t13) (by first | rfl | (simp [results, Try.results114, go_sem]; done) | (simp [results, Try.results114, go_sem]; rfl)) rfl ⟨rfl, ((hu4.out.trans hu7.out).trans hu16.out)⟩
 ·
  rw [if_neg c11] at H
  replace c11 := Bool.eq_false_iff.mpr c11
  have c11n : (a1 != 0) = true := by rw [bne, c11]; rfl
  have c11p : ¬ a1 = 0 := fun e => by simp [e] at c11
  try simp only [c11, c11n, Bool.not_true, Bool.not_false]
  refine wp_cond_false rfl ?_
  refine wp_seq_k (fun K17 hK17 => ?_)
  refine wp_region_lit ?_
  refine wpList_plain rfl (fun Ko hKo => ?_)
  go_simp
  refine hKo _ _ ?_
  clear hKo Ko
  try simp only [Act.put, nm1, nm2, nm3, i64_w]
  refine wpList_plain rfl (fun Ko hKo => ?_)
  go_simp
  refine hKo _ _ ?_
  clear hKo Ko
  try simp only [Act.put, nm1, nm2, nm3, i64_w]
  refine wpList_nil ?_
  (try simp only [Exit.then, Exit.inBlock, ↓reduceIte, Nat.reduceEqDiff])
  refine hK17 _ _ ?_
  by_cases c18 : (a1 == 1) = true
  ·
   rw [if_pos c18] at H
   have c18n : (a1 != 1) = false := by rw [bne, c18]; rfl
   replace H := Option.bind_eq_some_iff.mp H
   obtain ⟨t20, A21, H⟩ := H
   replace A21 := Aside0.mk A21
   try dsimp only at H
   obtain rfl := Option.some.inj H
   try simp only [c18, c18n, Bool.not_true, Bool.not_false]
   refine wp_cond_true rfl ?_
   refine wp_seq_k (fun K19 hK19 => ?_)
   refine wp_region_lit ?_
   refine wpList_plain rfl (fun Ko hKo => ?_)
   go_simp
   refine hKo _ _ ?_
   clear hKo Ko
   try simp only [Act.put, nm1, nm2, nm3, i64_w]
   refine wpList_plain rfl (fun Ko hKo => ?_)
   go_simp
   refine hKo _ _ ?_
   clear hKo Ko
   try simp only [Act.put, nm1, nm2, nm3, i64_w]
   have cl0 := (hb2.up hu7.out).cell (o := 0) rfl
   refine wpList_plain rfl (fun Ko hKo => ?_)
   go_simp
   refine hKo _ _ ?_
   clear hKo Ko
   clear cl0
   try simp only [Act.put, nm1, nm2, nm3, i64_w]
   refine wpList_plain rfl (fun Ko hKo => ?_)
   go_simp
   refine hKo _ _ ?_
   clear hKo Ko
   try simp only [Act.put, nm1, nm2, nm3, i64_w]
   have cl0 := hb5.cell (o := 0) rfl
   refine wpList_plain rfl (fun Ko hKo => ?_)
   go_simp
   refine hKo _ _ ?_
   clear hKo Ko
   clear cl0
   try simp only [Act.put, nm1, nm2, nm3, i64_w]
   refine wpList_plain rfl (fun Ko hKo => ?_)
   go_simp
   refine hKo _ _ ?_
   clear hKo Ko
   try simp only [Act.put, nm1, nm2, nm3, i64_w]
   refine wpList_plain rfl (fun Ko hKo => ?_)
   go_simp
   refine hKo _ _ ?_
   clear hKo Ko
   try simp only [Act.put, nm1, nm2, nm3, i64_w]
   have cl0 := (hb2.up hu7.out).cell (o := 1) rfl
   refine wpList_plain rfl (fun Ko hKo => ?_)
   go_simp
   refine hKo _ _ ?_
   clear hKo Ko
   clear cl0
   try simp only [Act.put, nm1, nm2, nm3, i64_w]
   refine wpList_plain rfl (fun Ko hKo => ?_)
   go_simp
   refine hKo _ _ ?_
   clear hKo Ko
   try simp only [Act.put, nm1, nm2, nm3, i64_w]
   have cl0 := hb5.cell (o := 1) rfl
   refine wpList_plain rfl (fun Ko hKo => ?_)
   go_simp
   refine hKo _ _ ?_
   clear hKo Ko
   clear cl0
   try simp only [Act.put, nm1, nm2, nm3, i64_w]
   refine wpList_plain rfl (fun Ko hKo => ?_)
   go_simp
   refine hKo _ _ ?_
   clear hKo Ko
   try simp only [Act.put, nm1, nm2, nm3, i64_w]
   refine wpList_plain rfl (fun Ko hKo => ?_)
   go_simp
   refine hKo _ _ ?_
   clear hKo Ko
   try simp only [Act.put, nm1, nm2, nm3, i64_w]
   refine step_call (wanted_none rfl) (by first | (go_simp; done) | (go_simp; rfl)) (impl_rest.calls K a0 (wrap64 ((wrap64 (a2_0 * a3_0)) - (wrap64 (a2_1 * a3_1)))) t20 w6  A21.out) ?_
   rintro e w22 ⟨rfl, hu⟩
   have hu23 := Aside0.mk hu
   clear hu
   refine ⟨_, rfl, ?_⟩
   simp only [Act.put, nm1, nm2, nm3, i64_w]
   refine wpList_plain rfl (fun Ko hKo => ?_)
   go_simp
   refine hKo _ _ ?_
   clear hKo Ko
   try simp only [Act.put, nm1, nm2, nm3, i64_w]
   refine wpList_nil ?_
   (try simp only [Exit.then, Exit.inBlock, ↓reduceIte, Nat.reduceEqDiff])
   refine hK19 _ _ ?_
   refine wp_ret ?_
   (try simp only [Exit.then, Exit.inBlock, ↓reduceIte, Nat.reduceEqDiff])
   refine hQf _ _ _ ?_
   exact bodyPost_ret (v := .int .i64 t20) (by first | rfl | (simp [results, Try.results114, go_sem]; done) | (simp [results, Try.results114, go_sem]; rfl)) rfl ⟨rfl, ((hu4.out.trans hu7.out).trans hu23.out)⟩
  ·
   rw [if_neg c18] at H
   replace c18 := Bool.eq_false_iff.mpr c18
   have c18n : (a1 != 1) = true := by rw [bne, c18]; rfl
   have c18p : ¬ a1 = 1 := fun e => by simp [e] at c18
   replace H := Option.bind_eq_some_iff.mp H
   obtain ⟨t25, A26, H⟩ := H
   replace A26 := Aside0.mk A26
   try dsimp only at H
   obtain rfl := Option.some.inj H
   try simp only [c18, c18n, Bool.not_true, Bool.not_false]
   refine wp_cond_false rfl ?_
   refine wp_skip ?_
   (try simp only [Exit.then, Exit.inBlock, ↓reduceIte, Nat.reduceEqDiff])
   refine hK8 _ _ ?_
   refine wp_seq_k (fun K24 hK24 => ?_)
   refine wp_region_lit ?_
   refine wpList_plain rfl (fun Ko hKo => ?_)
   go_simp
   refine hKo _ _ ?_
   clear hKo Ko
   try simp only [Act.put, nm1, nm2, nm3, i64_w]
   refine wpList_plain rfl (fun Ko hKo => ?_)
   go_simp
   refine hKo _ _ ?_
   clear hKo Ko
   try simp only [Act.put, nm1, nm2, nm3, i64_w]
   have cl0 := (hb2.up hu7.out).cell (o := 0) rfl
   refine wpList_plain rfl (fun Ko hKo => ?_)
   go_simp
   refine hKo _ _ ?_
   clear hKo Ko
   clear cl0
   try simp only [Act.put, nm1, nm2, nm3, i64_w]
   refine wpList_plain rfl (fun Ko hKo => ?_)
   go_simp
   refine hKo _ _ ?_
   clear hKo Ko
   try simp only [Act.put, nm1, nm2, nm3, i64_w]
   have cl0 := hb5.cell (o := 1) rfl
   refine wpList_plain rfl (fun Ko hKo => ?_)
   go_simp
   refine hKo _ _ ?_
   clear hKo Ko
   clear cl0
   try simp only [Act.put, nm1, nm2, nm3, i64_w]
   refine wpList_plain rfl (fun Ko hKo => ?_)
   go_simp
   refine hKo _ _ ?_
   clear hKo Ko
   try simp only [Act.put, nm1, nm2, nm3, i64_w]
   refine wpList_plain rfl (fun Ko hKo => ?_)
   go_simp
   refine hKo _ _ ?_
   clear hKo Ko
   try simp only [Act.put, nm1, nm2, nm3, i64_w]
   have cl0 := (hb2.up hu7.out).cell (o := 1) rfl
   refine wpList_plain rfl (fun Ko hKo => ?_)
   go_simp
   refine hKo _ _ ?_
   clear hKo Ko
   clear cl0
   try simp only [Act.put, nm1, nm2, nm3, i64_w]
   refine wpList_plain rfl (fun Ko hKo => ?_)
   go_simp
   refine hKo _ _ ?_
   clear hKo Ko
   try simp only [Act.put, nm1, nm2, nm3, i64_w]
   have cl0 := hb5.cell (o := 0) rfl
   refine wpList_plain rfl (fun Ko hKo => ?_)
   go_simp
   refine hKo _ _ ?_
   clear hKo Ko
   clear cl0
   try simp only [Act.put, nm1, nm2, nm3, i64_w]
   refine wpList_plain rfl (fun Ko hKo => ?_)
   go_simp
   refine hKo _ _ ?_
   clear hKo Ko
   try simp only [Act.put, nm1, nm2, nm3, i64_w]
   refine wpList_plain rfl (fun Ko hKo => ?_)
   go_simp
   refine hKo _ _ ?_
   clear hKo Ko
   try simp only [Act.put, nm1, nm2, nm3, i64_w]
   refine step_call (wanted_none rfl) (by first | (go_simp; done) | (go_simp; rfl)) (impl_rest.calls K a0 (wrap64 ((wrap64 (a2_0 * a3_1)) + (wrap64 (a2_1 * a3_0)))) t25 w6  A26.out) ?_
   rintro e w27 ⟨rfl, hu⟩
   have hu28 := Aside0.mk hu
   clear hu
   refine ⟨_, rfl, ?_⟩
   simp only [Act.put, nm1, nm2, nm3, i64_w]
   refine wpList_plain rfl (fun Ko hKo => ?_)
   go_simp
   refine hKo _ _ ?_
   clear hKo Ko
   try simp only [Act.put, nm1, nm2, nm3, i64_w]
   refine wpList_nil ?_
   (try simp only [Exit.then, Exit.inBlock, ↓reduceIte, Nat.reduceEqDiff])
   refine hK24 _ _ ?_
   refine wp_ret ?_
   (try simp only [Exit.then, Exit.inBlock, ↓reduceIte, Nat.reduceEqDiff])
   refine hQf _ _ _ ?_
   exact bodyPost_ret (v := .int .i64 t25) (by first | rfl | (simp [results, Try.results114, go_sem]; done) | (simp [results, Try.results114, go_sem]; rfl)) rfl ⟨rfl, ((hu4.out.trans hu7.out).trans hu28.out)⟩

set_option maxHeartbeats 40000000 in
set_option maxRecDepth 100000 in
theorem impl_quadrance.calls (K : Nat) (a0 : Int) (a1 : Int) (a2_0 : Int) (a2_1 : Int) (a3_0 : Int) (a3_1 : Int) (r0 : Int) (w : World)  (h : impl_quadrance.f K a0 a1 a2_0 a2_1 a3_0 a3_1 = some (r0)) :
    Calls Try.prog 105 #[.int .i64 a0, .int .i64 a1, .agg #[.int .i64 a2_0, .int .i64 a2_1], .agg #[.int .i64 a3_0, .int .i64 a3_1]] w fun e w' => e = .returned (.int .i64 r0) ∧ Up w w' := by
 have H : (((impl_less.f K a0 a2_0 a2_1 a3_0 a3_1).bind fun (t9, t10) => ((impl_product.f K a0 a1 t9 t10 t9 t10).bind fun t21 => some t21)) : Option (Int)) = some (r0) := h
 clear h
 replace H := Option.bind_eq_some_iff.mp H
 obtain ⟨⟨t9, t10⟩, A11, H⟩ := H
 replace A11 := Aside0.mk A11
 try dsimp only at H
 replace H := Option.bind_eq_some_iff.mp H
 obtain ⟨t21, A22, H⟩ := H
 replace A22 := Aside0.mk A22
 try dsimp only at H
 obtain rfl := Option.some.inj H
 go_enter Try.func105, Try.ntmps105
 refine wp_hide (fun Qf hQf => ?_)
 refine wp_seq_k (fun K1 hK1 => ?_)
 refine wp_region_lit ?_
 refine step_new (cs := [.int .i64 a2_0, .int .i64 a2_1]) (T := 26) (f := fun b => .pointer (some ⟨b, 0, none⟩)) rfl (by first | (go_simp; done) | (go_simp; rfl)) ?_
 intro b2 w3 hu lb hb2
 simp only [Act.put, nm1, nm2, nm3, i64_w]
 have lbb2 := Aside0.mk lb
 have ltb2 := Aside0.mk hb2.lt
 clear lb
 have hu4 := Aside0.mk hu
 clear hu
 refine step_new (cs := [.int .i64 a3_0, .int .i64 a3_1]) (T := 26) (f := fun b => .pointer (some ⟨b, 0, none⟩)) rfl (by first | (go_simp; done) | (go_simp; rfl)) ?_
 intro b5 w6 hu lb hb5
 simp only [Act.put, nm1, nm2, nm3, i64_w]
 have lbb5 := Aside0.mk lb
 have ltb5 := Aside0.mk hb5.lt
 clear lb
 have hu7 := Aside0.mk hu
 clear hu
 refine wpList_plain rfl (fun Ko hKo => ?_)
 go_simp
 refine hKo _ _ ?_
 clear hKo Ko
 try simp only [Act.put, nm1, nm2, nm3, i64_w]
 refine wpList_nil ?_
 (try simp only [Exit.then, Exit.inBlock, ↓reduceIte, Nat.reduceEqDiff])
 refine hK1 _ _ ?_
 refine wp_seq_k (fun K8 hK8 => ?_)
 refine wp_region_lit ?_
 refine wpList_plain rfl (fun Ko hKo => ?_)
 go_simp
 refine hKo _ _ ?_
 clear hKo Ko
 try simp only [Act.put, nm1, nm2, nm3, i64_w]
 have cl0 := (hb2.up hu7.out).cell (o := 0) rfl
 have cl1 := (hb2.up hu7.out).cell (o := 1) rfl
 refine wpList_plain rfl (fun Ko hKo => ?_)
 go_simp
 refine hKo _ _ ?_
 clear hKo Ko
 clear cl0 cl1
 try simp only [Act.put, nm1, nm2, nm3, i64_w]
 have cl0 := hb5.cell (o := 0) rfl
 have cl1 := hb5.cell (o := 1) rfl
 refine wpList_plain rfl (fun Ko hKo => ?_)
 go_simp
 refine hKo _ _ ?_
 clear hKo Ko
 clear cl0 cl1
 try simp only [Act.put, nm1, nm2, nm3, i64_w]
 refine step_call (wanted_none rfl) (by first | (go_simp; done) | (go_simp; rfl)) (impl_less.calls K a0 a2_0 a2_1 a3_0 a3_1 t9 t10 w6  A11.out) ?_
 rintro e w12 ⟨rfl, hu⟩
 have hu13 := Aside0.mk hu
 clear hu
 refine ⟨_, rfl, ?_⟩
 simp only [Act.put, nm1, nm2, nm3, i64_w]
 refine step_new (cs := [.int .i64 0, .int .i64 0]) (T := 26) (f := fun b => .pointer (some ⟨b, 0, none⟩)) rfl (by first | (go_simp; done) | (go_simp; rfl)) ?_
 intro b14 w15 hu lb hb14
 simp only [Act.put, nm1, nm2, nm3, i64_w]
 have lbb14 := Aside0.mk lb
 have ltb14 := Aside0.mk hb14.lt
 clear lb
 have hu16 := Aside0.mk hu
 clear hu
 have hB0 := hb14
 have cl0 := hB0.cell (o := 0) rfl
 have fr0 := hB0.free 0
 have cl1 := hB0.cell (o := 1) rfl
 have fr1 := hB0.free 1
 refine step_store (b := b14) (cs' := [.int .i64 t9, .int .i64 t10]) (T := 26) (W' := ((w15.setCell ⟨b14, 0, none⟩ (.int .i64 t9)).setCell ⟨b14, 1, none⟩ (.int .i64 t10))) rfl rfl (by first | (go_simp; done) | (go_simp; rfl)) (((Sto.refl _ _).setCell 0 _).setCell 1 _) (((hB0).setCell 0 _).setCell 1 _) ?_
 clear hB0 cl0 fr0 cl1 fr1
 intro w17 hs hb19
 have hs18 := Aside0.mk hs
 clear hs
 refine wpList_nil ?_
 (try simp only [Exit.then, Exit.inBlock, ↓reduceIte, Nat.reduceEqDiff])
 refine hK8 _ _ ?_
 refine wp_seq_k (fun K20 hK20 => ?_)
 refine wp_region_lit ?_
 refine wpList_plain rfl (fun Ko hKo => ?_)
 go_simp
 refine hKo _ _ ?_
 clear hKo Ko
 try simp only [Act.put, nm1, nm2, nm3, i64_w]
 refine wpList_plain rfl (fun Ko hKo => ?_)
 go_simp
 refine hKo _ _ ?_
 clear hKo Ko
 try simp only [Act.put, nm1, nm2, nm3, i64_w]
 have cl0 := hb19.cell (o := 0) rfl
 have cl1 := hb19.cell (o := 1) rfl
 refine wpList_plain rfl (fun Ko hKo => ?_)
 go_simp
 refine hKo _ _ ?_
 clear hKo Ko
 clear cl0 cl1
 try simp only [Act.put, nm1, nm2, nm3, i64_w]
 have cl0 := hb19.cell (o := 0) rfl
 have cl1 := hb19.cell (o := 1) rfl
 refine wpList_plain rfl (fun Ko hKo => ?_)
 go_simp
 refine hKo _ _ ?_
 clear hKo Ko
 clear cl0 cl1
 try simp only [Act.put, nm1, nm2, nm3, i64_w]
 refine step_call (wanted_none rfl) (by first | (go_simp; done) | (go_simp; rfl)) (impl_product.calls K a0 a1 t9 t10 t9 t10 t21 w17  A22.out) ?_
 rintro e w23 ⟨rfl, hu⟩
 have hu24 := Aside0.mk hu
 clear hu
 refine ⟨_, rfl, ?_⟩
 simp only [Act.put, nm1, nm2, nm3, i64_w]
 refine wpList_plain rfl (fun Ko hKo => ?_)
 go_simp
 refine hKo _ _ ?_
 clear hKo Ko
 try simp only [Act.put, nm1, nm2, nm3, i64_w]
 refine wpList_nil ?_
 (try simp only [Exit.then, Exit.inBlock, ↓reduceIte, Nat.reduceEqDiff])
 refine hK20 _ _ ?_
 refine wp_ret ?_
 (try simp only [Exit.then, Exit.inBlock, ↓reduceIte, Nat.reduceEqDiff])
 refine hQf _ _ _ ?_
 exact bodyPost_ret (v := .int .i64 t21) (by first | rfl | (simp [results, Try.results105, go_sem]; done) | (simp [results, Try.results105, go_sem]; rfl)) rfl ⟨rfl, (((((hu4.out.trans hu7.out).trans hu13.out).trans hu16.out).sto (Nat.le_trans ((Nat.le_trans ((Nat.le_trans (hu4.out.size) hu7.out.size)) hu13.out.size)) lbb14.out) hs18.out).trans hu24.out)⟩

set_option maxHeartbeats 40000000 in
set_option maxRecDepth 100000 in
theorem impl_allPoints.calls (K : Nat) (a0 : Int) (r0 : List (Int × Int)) (w : World)  (h : impl_allPoints.f K a0 = some (r0)) :
    Calls Try.prog 135 #[.int .i64 a0] w fun e w' => ∃ (Ar0 : Option Addr) (cr0 : Nat), e = .returned (.slice Ar0 r0.length cr0) ∧ Own e2 26 w' w.heap.size (.slice Ar0 r0.length cr0) r0 ∧ Up w w' := by
 have H : ((impl_allPoints.l0 K a0 K 0 ([] : List (Int × Int))) : Option (List (Int × Int))) = some (r0) := h
 clear h
 go_enter Try.func135, Try.ntmps135
 refine wp_hide (fun Qf hQf => ?_)
 refine wp_seq_k (fun K1 hK1 => ?_)
 refine wp_region_lit ?_
 refine wpList_plain rfl (fun Ko hKo => ?_)
 go_simp
 refine hKo _ _ ?_
 clear hKo Ko
 try simp only [Act.put, nm1, nm2, nm3, i64_w]
 refine wpList_nil ?_
 (try simp only [Exit.then, Exit.inBlock, ↓reduceIte, Nat.reduceEqDiff])
 refine hK1 _ _ ?_
 refine wp_seq_k (fun K2 hK2 => ?_)
 refine wp_region_lit ?_
 refine step_new (cs := []) (T := 26) (f := fun b => .slice (some ⟨b, 0, none⟩) 0 0) rfl (by first | (go_simp; done) | (go_simp; rfl)) ?_
 intro b3 w4 hu lb hb3
 simp only [Act.put, nm1, nm2, nm3, i64_w]
 have lbb3 := Aside0.mk lb
 have ltb3 := Aside0.mk hb3.lt
 clear lb
 have hu5 := Aside0.mk hu
 clear hu
 refine wpList_plain rfl (fun Ko hKo => ?_)
 go_simp
 refine hKo _ _ ?_
 clear hKo Ko
 try simp only [Act.put, nm1, nm2, nm3, i64_w]
 refine wpList_nil ?_
 (try simp only [Exit.then, Exit.inBlock, ↓reduceIte, Nat.reduceEqDiff])
 refine hK2 _ _ ?_
 refine wp_seq_k (fun K6 hK6 => ?_)
 refine wp_seq_k (fun K7 hK7 => ?_)
 refine wp_region_lit ?_
 refine wpList_plain rfl (fun Ko hKo => ?_)
 go_simp
 refine hKo _ _ ?_
 clear hKo Ko
 try simp only [Act.put, nm1, nm2, nm3, i64_w]
 refine wpList_nil ?_
 (try simp only [Exit.then, Exit.inBlock, ↓reduceIte, Nat.reduceEqDiff])
 refine hK7 _ _ ?_
 refine wp_block ?_
 have h9 : Own e2 26 w4 w.heap.size (.slice (some ⟨b3, 0, none⟩) ([].length) 0) [] := Own.of_blk hb3 lbb3.out rfl (by simp) (by simp [Enc.flat, e2])
 have HL17 := Aside0.mk H
 clear H
 go_loopg [4, 3] K (fun kq v4 v3 w' => ∃ (x10 : Int) (x11 : List (Int × Int)) (P12 : Option Addr) (q13 : Nat), v4 = .int .i64 x10 ∧ v3 = .slice P12 x11.length q13 ∧ Aside0 (impl_allPoints.l0 K a0 kq x10 x11 = some (r0)) ∧ Aside0 (kq ≤ K) ∧ Aside0 (Up w w') ∧ Aside0 (w4.heap.size ≤ w'.heap.size) ∧ Own e2 26 w' w.heap.size (.slice P12 x11.length q13) x11)
 case atStart => exact ⟨0, ([] : List (Int × Int)), some ⟨b3, 0, none⟩, 0, (by first | rfl | simp), (by first | rfl | simp), HL17, ⟨Nat.le_refl _⟩, ⟨hu5.out⟩, ⟨Nat.le_refl _⟩, h9⟩
 case round =>
  rename_i J22 K23 hJ22 hK23
  obtain ⟨x10, x11, P12, q13, rfl, rfl, HL21, hk20, hu15, hz16, h18⟩ := hrel
  obtain ⟨w14, rfl⟩ : ∃ wo : World, wo = wr := ⟨_, rfl⟩
  obtain ⟨k19, rfl⟩ | rfl : (∃ k, gk = k + 1) ∨ gk = 0 := by rcases gk with _ | k; exact .inr rfl; exact .inl ⟨k, rfl⟩
  case inr => exact absurd HL21.out (by simp [impl_allPoints.l0])
  have H := HL21.out
  clear HL21
  rw [impl_allPoints.l0] at H
  refine wp_seq_k (fun K24 hK24 => ?_)
  refine wp_seq_k (fun K25 hK25 => ?_)
  refine wp_region_lit ?_
  refine wpList_plain rfl (fun Ko hKo => ?_)
  go_simp
  refine hKo _ _ ?_
  clear hKo Ko
  try simp only [Act.put, nm1, nm2, nm3, i64_w]
  refine wpList_plain rfl (fun Ko hKo => ?_)
  go_simp
  refine hKo _ _ ?_
  clear hKo Ko
  try simp only [Act.put, nm1, nm2, nm3, i64_w]
  refine wpList_plain rfl (fun Ko hKo => ?_)
  go_simp
  refine hKo _ _ ?_
  clear hKo Ko
  try simp only [Act.put, nm1, nm2, nm3, i64_w]
  refine wpList_nil ?_
  (try simp only [Exit.then, Exit.inBlock, ↓reduceIte, Nat.reduceEqDiff])
  refine hK25 _ _ ?_
  by_cases c26 : (decide (x10 < a0)) = true
  ·
   rw [if_pos c26] at H
   try simp only [c26, Bool.not_true, Bool.not_false]
   refine wp_cond_true rfl ?_
   refine wp_skip ?_
   (try simp only [Exit.then, Exit.inBlock, ↓reduceIte, Nat.reduceEqDiff])
   refine hK24 _ _ ?_
   refine wp_seq_k (fun K27 hK27 => ?_)
   refine wp_block ?_
   refine wp_seq_k (fun K28 hK28 => ?_)
   refine wp_region_lit ?_
   refine wpList_plain rfl (fun Ko hKo => ?_)
   go_simp
   refine hKo _ _ ?_
   clear hKo Ko
   try simp only [Act.put, nm1, nm2, nm3, i64_w]
   refine wpList_nil ?_
   (try simp only [Exit.then, Exit.inBlock, ↓reduceIte, Nat.reduceEqDiff])
   refine hK28 _ _ ?_
   refine wp_block ?_
   have HL36 := Aside0.mk H
   clear H
   go_loopg [5, 3] k19 (fun kq v5 v3 w' => ∃ (x29 : Int) (x30 : List (Int × Int)) (P31 : Option Addr) (q32 : Nat), v5 = .int .i64 x29 ∧ v3 = .slice P31 x30.length q32 ∧ Aside0 (impl_allPoints.l1 K a0 x10 kq x29 x30 = some (r0)) ∧ Aside0 (kq ≤ k19) ∧ Aside0 (Up w w') ∧ Aside0 (w14.heap.size ≤ w'.heap.size) ∧ Own e2 26 w' w.heap.size (.slice P31 x30.length q32) x30)
   case atStart => exact ⟨0, x11, P12, q13, (by first | rfl | simp), (by first | rfl | simp), HL36, ⟨Nat.le_refl _⟩, ⟨hu15.out⟩, ⟨Nat.le_refl _⟩, h18⟩
   case round =>
    rename_i J41 K42 hJ41 hK42
    obtain ⟨x29, x30, P31, q32, rfl, rfl, HL40, hk39, hu34, hz35, h37⟩ := hrel
    obtain ⟨w33, rfl⟩ : ∃ wo : World, wo = wr := ⟨_, rfl⟩
    obtain ⟨k38, rfl⟩ | rfl : (∃ k, gk = k + 1) ∨ gk = 0 := by rcases gk with _ | k; exact .inr rfl; exact .inl ⟨k, rfl⟩
    case inr => exact absurd HL40.out (by simp [impl_allPoints.l1])
    have H := HL40.out
    clear HL40
    rw [impl_allPoints.l1] at H
    refine wp_seq_k (fun K43 hK43 => ?_)
    refine wp_seq_k (fun K44 hK44 => ?_)
    refine wp_region_lit ?_
    refine wpList_plain rfl (fun Ko hKo => ?_)
    go_simp
    refine hKo _ _ ?_
    clear hKo Ko
    try simp only [Act.put, nm1, nm2, nm3, i64_w]
    refine wpList_plain rfl (fun Ko hKo => ?_)
    go_simp
    refine hKo _ _ ?_
    clear hKo Ko
    try simp only [Act.put, nm1, nm2, nm3, i64_w]
    refine wpList_plain rfl (fun Ko hKo => ?_)
    go_simp
    refine hKo _ _ ?_
    clear hKo Ko
    try simp only [Act.put, nm1, nm2, nm3, i64_w]
    refine wpList_nil ?_
    (try simp only [Exit.then, Exit.inBlock, ↓reduceIte, Nat.reduceEqDiff])
    refine hK44 _ _ ?_
    by_cases c45 : (decide (x29 < a0)) = true
    ·
     rw [if_pos c45] at H
     try simp only [c45, Bool.not_true, Bool.not_false]
     refine wp_cond_true rfl ?_
     refine wp_skip ?_
     (try simp only [Exit.then, Exit.inBlock, ↓reduceIte, Nat.reduceEqDiff])
     refine hK43 _ _ ?_
     refine wp_seq_k (fun K46 hK46 => ?_)
     refine wp_block ?_
     refine wp_region_lit ?_
     refine wpList_plain rfl (fun Ko hKo => ?_)
     go_simp
     refine hKo _ _ ?_
     clear hKo Ko
     try simp only [Act.put, nm1, nm2, nm3, i64_w]
     refine wpList_plain rfl (fun Ko hKo => ?_)
     go_simp
     refine hKo _ _ ?_
     clear hKo Ko
     try simp only [Act.put, nm1, nm2, nm3, i64_w]
     refine wpList_plain rfl (fun Ko hKo => ?_)
     go_simp
     refine hKo _ _ ?_
     clear hKo Ko
     try simp only [Act.put, nm1, nm2, nm3, i64_w]
     refine wpList_plain rfl (fun Ko hKo => ?_)
     go_simp
     refine hKo _ _ ?_
     clear hKo Ko
     try simp only [Act.put, nm1, nm2, nm3, i64_w]
     refine step_new (cs := [.int .i64 x10, .int .i64 x29]) (T := 26) (f := fun b => .slice (some ⟨b, 0, none⟩) 1 1) rfl (by first | (go_simp; done) | (go_simp; rfl)) ?_
     intro b47 w48 hu lb hb47
     simp only [Act.put, nm1, nm2, nm3, i64_w]
     have lbb47 := Aside0.mk lb
     have ltb47 := Aside0.mk hb47.lt
     clear lb
     have hu49 := Aside0.mk hu
     clear hu
     have hm51 := Aside0.mk (Nat.le_trans ((Nat.le_trans ((Nat.le_trans (hu5.out.size) hz16.out)) hz35.out)) hu49.out.size)
     by_cases c50 : (decide (x30.length ≤ 1000000)) = true
     ·
      rw [if_pos c50] at H
      have HL61 := Aside0.mk H
      clear H
      try simp only [c50, Bool.not_true, Bool.not_false]
      have hO0 := Aside0.mk (h37.up hu49.out)
      refine step_append e2 (z := .agg #[.int .i64 0, .int .i64 0]) (bytes := 16) (base := w.heap.size) (xs := x30) (ys := [(x10, x29)]) (wanted_none rfl) _ _ rfl rfl (by kernel_rfl) rfl (by decide) rfl rfl rfl hO0.out (Rd.of_blk (E := e2) (xs := [(x10, x29)]) (o := 0) hb47 (by simp) (fun j u hu => by rcases j with _ | _ | j <;> simp_all [Enc.flat, e2])) (hm51.out) (by have h0_ := (of_decide_eq_true (by assumption) : x30.length ≤ 1000000); (try simp only [List.length_cons, List.length_nil]); omega) ?_
      intro P52 q53 w54 h56 hg hat
      have hg57 := Aside0.mk hg
      have hat58 := Aside0.mk hat
      simp only [Act.put, nm1, nm2, nm3, i64_w]
      have lb59 := Aside0.mk hO0.out.lt
      clear hO0 hg hat
      have h60 := hb47.grow hg57.out (fun k hk => Nat.ne_of_lt (Nat.lt_of_lt_of_le ((fun k hk => Nat.lt_of_lt_of_le (h37.lt k hk).2 (Nat.le_refl _)) k hk) lbb47.out))
      refine wpList_plain rfl (fun Ko hKo => ?_)
      go_simp
      refine hKo _ _ ?_
      clear hKo Ko
      try simp only [Act.put, nm1, nm2, nm3, i64_w]
      refine wpList_nil ?_
      (try simp only [Exit.then, Exit.inBlock, ↓reduceIte, Nat.reduceEqDiff])
      refine hK46 _ _ ?_
      refine wp_region_lit ?_
      refine wpList_plain rfl (fun Ko hKo => ?_)
      go_simp
      refine hKo _ _ ?_
      clear hKo Ko
      try simp only [Act.put, nm1, nm2, nm3, i64_w]
      refine wpList_plain rfl (fun Ko hKo => ?_)
      go_simp
      refine hKo _ _ ?_
      clear hKo Ko
      try simp only [Act.put, nm1, nm2, nm3, i64_w]
      refine wpList_plain rfl (fun Ko hKo => ?_)
      go_simp
      refine hKo _ _ ?_
      clear hKo Ko
      try simp only [Act.put, nm1, nm2, nm3, i64_w]
      refine wpList_nil ?_
      (try simp only [Exit.then, Exit.inBlock, ↓reduceIte, Nat.reduceEqDiff])
      refine hK42 _ _ ?_
      go_roundg k38
      case measure => exact Nat.lt_succ_self _
      case rel => exact ⟨wrap64 (x29 + 1), (x30 ++ [(x10, x29)]), P52, q53, (by first | rfl | simp), (by first | rfl | simp), HL61, ⟨by have := hk20.out; have := hk39.out; omega⟩, ⟨((hu34.out.trans hu49.out).grow hg57.out (fun k hk => Nat.le_trans (Nat.le_refl _) ((fun k hk => (lb59.out k hk).1) k hk)))⟩, ⟨(Nat.le_trans ((Nat.le_trans ((Nat.le_trans (Nat.le_refl _) hz35.out)) hu49.out.size)) hg57.out.size)⟩, h56⟩
     ·
      rw [if_neg c50] at H
      replace c50 := Bool.eq_false_iff.mpr c50
      exact absurd H (by simp)
    ·
     rw [if_neg c45] at H
     replace c45 := Bool.eq_false_iff.mpr c45
     have HL62 := Aside0.mk H
     clear H
     try simp only [c45, Bool.not_true, Bool.not_false]
     refine wp_cond_false rfl ?_
     refine wp_exit ?_
     (try simp only [Exit.then, Exit.inBlock, ↓reduceIte, Nat.reduceEqDiff])
     refine hK27 _ _ ?_
     refine wp_region_lit ?_
     refine wpList_plain rfl (fun Ko hKo => ?_)
     go_simp
     refine hKo _ _ ?_
     clear hKo Ko
     try simp only [Act.put, nm1, nm2, nm3, i64_w]
     refine wpList_plain rfl (fun Ko hKo => ?_)
     go_simp
     refine hKo _ _ ?_
     clear hKo Ko
     try simp only [Act.put, nm1, nm2, nm3, i64_w]
     refine wpList_plain rfl (fun Ko hKo => ?_)
     go_simp
     refine hKo _ _ ?_
     clear hKo Ko
     try simp only [Act.put, nm1, nm2, nm3, i64_w]
     refine wpList_nil ?_
     (try simp only [Exit.then, Exit.inBlock, ↓reduceIte, Nat.reduceEqDiff])
     refine hK23 _ _ ?_
     go_roundg k38
     case measure => have := hk20.out; have := hk39.out; omega
     case rel => exact ⟨wrap64 (x10 + 1), x30, P31, q32, (by first | rfl | simp), (by first | rfl | simp), HL62, ⟨by have := hk20.out; have := hk39.out; omega⟩, ⟨hu34.out⟩, ⟨(Nat.le_trans ((Nat.le_trans (Nat.le_refl _) hz16.out)) hz35.out)⟩, h37⟩
  ·
   rw [if_neg c26] at H
   replace c26 := Bool.eq_false_iff.mpr c26
   obtain rfl := Option.some.inj H
   try simp only [c26, Bool.not_true, Bool.not_false]
   refine wp_cond_false rfl ?_
   refine wp_exit ?_
   (try simp only [Exit.then, Exit.inBlock, ↓reduceIte, Nat.reduceEqDiff])
   refine hK6 _ _ ?_
   refine wp_seq_k (fun K63 hK63 => ?_)
   refine wp_region_lit ?_
   refine wpList_plain rfl (fun Ko hKo => ?_)
   go_simp
   refine hKo _ _ ?_
   clear hKo Ko
   try simp only [Act.put, nm1, nm2, nm3, i64_w]
   refine wpList_plain rfl (fun Ko hKo => ?_)
   go_simp
   refine hKo _ _ ?_
   clear hKo Ko
   try simp only [Act.put, nm1, nm2, nm3, i64_w]
   refine wpList_nil ?_
   (try simp only [Exit.then, Exit.inBlock, ↓reduceIte, Nat.reduceEqDiff])
   refine hK63 _ _ ?_
   refine wp_ret ?_
   (try simp only [Exit.then, Exit.inBlock, ↓reduceIte, Nat.reduceEqDiff])
   refine hQf _ _ _ ?_
   exact bodyPost_ret (v := .slice P12 x11.length q13) (by first | rfl | (simp [results, Try.results135, go_sem]; done) | (simp [results, Try.results135, go_sem]; rfl)) rfl ⟨P12, q13, rfl, (h18.lower (Nat.le_refl _)), hu15.out⟩

set_option maxHeartbeats 40000000 in
set_option maxRecDepth 100000 in
theorem impl_pointsAt_1.calls (K : Nat) (a0_0 : Int) (a0_1 : Int) (bf0 : Nat) (f0_0 : Int) (bf1 : Nat) (f1_0 : Int) (bf2 : Nat) (f2_0 : Int) (f2_1 : Int) (bf3 : Nat) (f3_0 : Int) (r0 : Bool) (w : World) (hf0 : Blk w bf0 [.int .i64 f0_0] 2) (hf1 : Blk w bf1 [.int .i64 f1_0] 2) (hf2 : Blk w bf2 [.int .i64 f2_0, .int .i64 f2_1] 26) (hf3 : Blk w bf3 [.int .i64 f3_0] 2) (h : impl_pointsAt_1.f K a0_0 a0_1 f0_0 f1_0 f2_0 f2_1 f3_0 = some (r0)) :
    Calls Try.prog 140 #[.agg #[.int .i64 a0_0, .int .i64 a0_1], .pointer (some ⟨bf0, 0, none⟩), .pointer (some ⟨bf1, 0, none⟩), .pointer (some ⟨bf2, 0, none⟩), .pointer (some ⟨bf3, 0, none⟩)] w fun e w' => e = .returned (.bool r0) ∧ Up w w' := by
 have H : (((impl_quadrance.f K f0_0 f1_0 f2_0 f2_1 a0_0 a0_1).bind fun t6 => some (t6 == f3_0)) : Option (Bool)) = some (r0) := h
 clear h
 replace H := Option.bind_eq_some_iff.mp H
 obtain ⟨t6, A7, H⟩ := H
 replace A7 := Aside0.mk A7
 try dsimp only at H
 obtain rfl := Option.some.inj H
 have ltbf0 := Aside0.mk hf0.lt
 have ltbf1 := Aside0.mk hf1.lt
 have ltbf2 := Aside0.mk hf2.lt
 have ltbf3 := Aside0.mk hf3.lt
 go_enter Try.func140, Try.ntmps140
 refine wp_hide (fun Qf hQf => ?_)
 refine wp_seq_k (fun K1 hK1 => ?_)
 refine wp_region_lit ?_
 refine step_new (cs := [.int .i64 a0_0, .int .i64 a0_1]) (T := 26) (f := fun b => .pointer (some ⟨b, 0, none⟩)) rfl (by first | (go_simp; done) | (go_simp; rfl)) ?_
 intro b2 w3 hu lb hb2
 simp only [Act.put, nm1, nm2, nm3, i64_w]
 have lbb2 := Aside0.mk lb
 have ltb2 := Aside0.mk hb2.lt
 clear lb
 have hu4 := Aside0.mk hu
 clear hu
 refine wpList_plain rfl (fun Ko hKo => ?_)
 go_simp
 refine hKo _ _ ?_
 clear hKo Ko
 try simp only [Act.put, nm1, nm2, nm3, i64_w]
 refine wpList_nil ?_
 (try simp only [Exit.then, Exit.inBlock, ↓reduceIte, Nat.reduceEqDiff])
 refine hK1 _ _ ?_
 refine wp_seq_k (fun K5 hK5 => ?_)
 refine' wp_region_up 7 [Slot.det _, Slot.det _, Slot.det _, Slot.det _, Slot.det (.int .i64 t6), Slot.det _, Slot.det _] (by kernel_rfl) (by kernel_rfl) ?main
 case main =>
  simp only [List.take_succ_cons, List.take_zero]
  refine wpK_ops rfl (fun w1 hu => ?_) ?_
  · have cl0 := ((hf0.up hu4.out).up ((Up.refl _).drew.trans hu)).cell (o := 0) rfl
    go_simp
    first | done | rfl
  simp only [Act.put, nm1, nm2, nm3, i64_w]
  refine wpK_ops rfl (fun w1 hu => ?_) ?_
  · have cl0 := ((hf1.up hu4.out).up ((Up.refl _).drew.trans hu)).cell (o := 0) rfl
    go_simp
    first | done | rfl
  simp only [Act.put, nm1, nm2, nm3, i64_w]
  refine wpK_ops rfl (fun w1 hu => ?_) ?_
  · have cl0 := ((hf2.up hu4.out).up ((Up.refl _).drew.trans hu)).cell (o := 0) rfl
    have cl1 := ((hf2.up hu4.out).up ((Up.refl _).drew.trans hu)).cell (o := 1) rfl
    go_simp
    first | done | rfl
  simp only [Act.put, nm1, nm2, nm3, i64_w]
  refine wpK_ops rfl (fun w1 hu => ?_) ?_
  · have cl0 := (hb2.up ((Up.refl _).drew.trans hu)).cell (o := 0) rfl
    have cl1 := (hb2.up ((Up.refl _).drew.trans hu)).cell (o := 1) rfl
    go_simp
    first | done | rfl
  simp only [Act.put, nm1, nm2, nm3, i64_w]
  refine wpK_ops rfl (fun w1 hu => ?_) ?_
  · have hcl := (impl_quadrance.calls K f0_0 f1_0 f2_0 f2_1 a0_0 a0_1 t6 w1  A7.out)
    clear hu
    replace hcl := Aside0.mk hcl
    go_simp
    exact hcl.out
  simp only [Act.put, nm1, nm2, nm3, i64_w]
  refine wpK_ops rfl (fun w1 hu => ?_) ?_
  · have cl0 := ((hf3.up hu4.out).up ((Up.refl _).drew.trans hu)).cell (o := 0) rfl
    go_simp
    first | done | rfl
  simp only [Act.put, nm1, nm2, nm3, i64_w]
  refine wpK_ops rfl (fun w1 hu => ?_) ?_
  · clear hu
    go_simp
    first | done | rfl
  simp only [Act.put, nm1, nm2, nm3, i64_w]
  refine wpK_nil ?_
  intro w8 hu hap
  simp only [List.drop_succ_cons, List.drop_zero]
  replace hu := (Up.refl _).drew.trans hu
  clear hap
  have hu9 := Aside0.mk hu
  clear hu
  refine wpList_plain rfl (fun Ko hKo => ?_)
  go_simp
  refine hKo _ _ ?_
  clear hKo Ko
  try simp only [Act.put, nm1, nm2, nm3, i64_w]
  refine wpList_nil ?_
  (try simp only [Exit.then, Exit.inBlock, ↓reduceIte, Nat.reduceEqDiff])
  refine hK5 _ _ ?_
  refine wp_ret ?_
  (try simp only [Exit.then, Exit.inBlock, ↓reduceIte, Nat.reduceEqDiff])
  refine hQf _ _ _ ?_
  exact bodyPost_ret (v := .bool (t6 == f3_0)) (by first | rfl | (simp [results, Try.results140, go_sem]; done) | (simp [results, Try.results140, go_sem]; rfl)) rfl ⟨rfl, (hu4.out.trans hu9.out)⟩

set_option maxHeartbeats 40000000 in
set_option maxRecDepth 100000 in
theorem impl_pointsWith__impl_pointsAt_1.calls (K : Nat) (a0 : Int) (bc1_0 : Nat) (c1_0_0 : Int) (bc1_1 : Nat) (c1_1_0 : Int) (bc1_2 : Nat) (c1_2_0 : Int) (c1_2_1 : Int) (bc1_3 : Nat) (c1_3_0 : Int) (r0 : List (Int × Int)) (w : World) (hc1_0 : Blk w bc1_0 [.int .i64 c1_0_0] 2) (hc1_1 : Blk w bc1_1 [.int .i64 c1_1_0] 2) (hc1_2 : Blk w bc1_2 [.int .i64 c1_2_0, .int .i64 c1_2_1] 26) (hc1_3 : Blk w bc1_3 [.int .i64 c1_3_0] 2) (h : impl_pointsWith__impl_pointsAt_1.f K a0 c1_0_0 c1_1_0 c1_2_0 c1_2_1 c1_3_0 = some (r0)) :
    Calls Try.prog 115 #[.int .i64 a0, .func (.func 140) #[] #[.pointer (some ⟨bc1_0, 0, none⟩), .pointer (some ⟨bc1_1, 0, none⟩), .pointer (some ⟨bc1_2, 0, none⟩), .pointer (some ⟨bc1_3, 0, none⟩)]] w fun e w' => ∃ (Ar0 : Option Addr) (cr0 : Nat), e = .returned (.slice Ar0 r0.length cr0) ∧ Own e2 26 w' w.heap.size (.slice Ar0 r0.length cr0) r0 ∧ Up w w' := by
 have H : (((impl_allPoints.f K a0).bind fun t8 => (impl_pointsWith__impl_pointsAt_1.l0 K c1_0_0 c1_1_0 c1_2_0 c1_2_1 c1_3_0 t8 K 0 ([] : List (Int × Int)))) : Option (List (Int × Int))) = some (r0) := h
 clear h
 replace H := Option.bind_eq_some_iff.mp H
 obtain ⟨t8, A11, H⟩ := H
 replace A11 := Aside0.mk A11
 try dsimp only at H
 have ltbc1_0 := Aside0.mk hc1_0.lt
 have ltbc1_1 := Aside0.mk hc1_1.lt
 have ltbc1_2 := Aside0.mk hc1_2.lt
 have ltbc1_3 := Aside0.mk hc1_3.lt
 go_enter Try.func115, Try.ntmps115
 refine wp_hide (fun Qf hQf => ?_)
 refine wp_seq_k (fun K1 hK1 => ?_)
 refine wp_region_lit ?_
 refine wpList_plain rfl (fun Ko hKo => ?_)
 go_simp
 refine hKo _ _ ?_
 clear hKo Ko
 try simp only [Act.put, nm1, nm2, nm3, i64_w]
 refine wpList_nil ?_
 (try simp only [Exit.then, Exit.inBlock, ↓reduceIte, Nat.reduceEqDiff])
 refine hK1 _ _ ?_
 refine wp_seq_k (fun K2 hK2 => ?_)
 refine wp_region_lit ?_
 refine step_new (cs := []) (T := 26) (f := fun b => .slice (some ⟨b, 0, none⟩) 0 0) rfl (by first | (go_simp; done) | (go_simp; rfl)) ?_
 intro b3 w4 hu lb hb3
 simp only [Act.put, nm1, nm2, nm3, i64_w]
 have lbb3 := Aside0.mk lb
 have ltb3 := Aside0.mk hb3.lt
 clear lb
 have hu5 := Aside0.mk hu
 clear hu
 refine wpList_plain rfl (fun Ko hKo => ?_)
 go_simp
 refine hKo _ _ ?_
 clear hKo Ko
 try simp only [Act.put, nm1, nm2, nm3, i64_w]
 refine wpList_nil ?_
 (try simp only [Exit.then, Exit.inBlock, ↓reduceIte, Nat.reduceEqDiff])
 refine hK2 _ _ ?_
 refine wp_seq_k (fun K6 hK6 => ?_)
 refine wp_seq_k (fun K7 hK7 => ?_)
 refine wp_region_lit ?_
 refine wpList_plain rfl (fun Ko hKo => ?_)
 go_simp
 refine hKo _ _ ?_
 clear hKo Ko
 try simp only [Act.put, nm1, nm2, nm3, i64_w]
 refine step_call (wanted_none rfl) (by first | (go_simp; done) | (go_simp; rfl)) (impl_allPoints.calls K a0 t8 w4  A11.out) ?_
 rintro e w12 ⟨P9, q10, rfl, ht8, hu⟩
 have hu13 := Aside0.mk hu
 clear hu
 refine ⟨_, rfl, ?_⟩
 simp only [Act.put, nm1, nm2, nm3, i64_w]
 refine wpList_plain rfl (fun Ko hKo => ?_)
 go_simp
 refine hKo _ _ ?_
 clear hKo Ko
 try simp only [Act.put, nm1, nm2, nm3, i64_w]
 refine wpList_plain rfl (fun Ko hKo => ?_)
 go_simp
 refine hKo _ _ ?_
 clear hKo Ko
 try simp only [Act.put, nm1, nm2, nm3, i64_w]
 refine wpList_nil ?_
 (try simp only [Exit.then, Exit.inBlock, ↓reduceIte, Nat.reduceEqDiff])
 refine hK7 _ _ ?_
 refine wp_block ?_
 have h15 : Own e2 26 w12 w.heap.size (.slice (some ⟨b3, 0, none⟩) ([].length) 0) [] := Own.of_blk (hb3.up hu13.out) lbb3.out rfl (by simp) (by simp [Enc.flat, e2])
 have h16 : Own e2 26 w4 w.heap.size (.slice (some ⟨b3, 0, none⟩) ([].length) 0) [] := Own.of_blk hb3 lbb3.out rfl (by simp) (by simp [Enc.flat, e2])
 have HL24 := Aside0.mk H
 clear H
 go_loopg [12, 5] K (fun kq v12 v5 w' => ∃ (x17 : Int) (x18 : List (Int × Int)) (P19 : Option Addr) (q20 : Nat), v12 = .int .i64 x17 ∧ v5 = .slice P19 x18.length q20 ∧ Aside0 (impl_pointsWith__impl_pointsAt_1.l0 K c1_0_0 c1_1_0 c1_2_0 c1_2_1 c1_3_0 t8 kq x17 x18 = some (r0)) ∧ Aside0 (kq ≤ K) ∧ Aside0 (Up w w') ∧ Aside0 (w12.heap.size ≤ w'.heap.size) ∧ Own e2 26 w' w4.heap.size (.slice P9 t8.length q10) t8 ∧ Own e2 26 w' w.heap.size (.slice P19 x18.length q20) x18 ∧ Aside0 (∀ k l, blk (.slice P19 x18.length q20) = some k → blk (.slice P9 t8.length q10) = some l → k ≠ l))
 case atStart => exact ⟨0, ([] : List (Int × Int)), some ⟨b3, 0, none⟩, 0, (by first | rfl | simp), (by first | rfl | simp), HL24, ⟨Nat.le_refl _⟩, ⟨(hu5.out.trans hu13.out)⟩, ⟨Nat.le_refl _⟩, ht8, h15, ⟨(fun k l hk hl => Nat.ne_of_lt (Nat.lt_of_lt_of_le ((fun k hk => Nat.lt_of_lt_of_le (h16.lt k hk).2 (Nat.le_refl _)) k hk) ((fun k hk => Nat.le_trans (Nat.le_refl _) (ht8.lt k hk).1) l hl)))⟩⟩
 case round =>
  rename_i J31 K32 hJ31 hK32
  obtain ⟨x17, x18, P19, q20, rfl, rfl, HL30, hk29, hu22, hz23, h25, h26, hn27⟩ := hrel
  obtain ⟨w21, rfl⟩ : ∃ wo : World, wo = wr := ⟨_, rfl⟩
  obtain ⟨k28, rfl⟩ | rfl : (∃ k, gk = k + 1) ∨ gk = 0 := by rcases gk with _ | k; exact .inr rfl; exact .inl ⟨k, rfl⟩
  case inr => exact absurd HL30.out (by simp [impl_pointsWith__impl_pointsAt_1.l0])
  have H := HL30.out
  clear HL30
  rw [impl_pointsWith__impl_pointsAt_1.l0] at H
  refine wp_seq_k (fun K33 hK33 => ?_)
  refine wp_region_lit ?_
  refine wpList_plain rfl (fun Ko hKo => ?_)
  go_simp
  refine hKo _ _ ?_
  clear hKo Ko
  try simp only [Act.put, nm1, nm2, nm3, i64_w]
  refine wpList_nil ?_
  (try simp only [Exit.then, Exit.inBlock, ↓reduceIte, Nat.reduceEqDiff])
  refine hK33 _ _ ?_
  refine wp_seq_k (fun K34 hK34 => ?_)
  by_cases c35 : (decide (x17 < (t8.length : Int))) = true
  ·
   rw [if_pos c35] at H
   replace H := Option.bind_eq_some_iff.mp H
   obtain ⟨⟨t38, t39⟩, A40, H⟩ := H
   replace A40 := Aside0.mk A40
   try dsimp only at H
   replace H := Option.bind_eq_some_iff.mp H
   obtain ⟨t51, A52, H⟩ := H
   replace A52 := Aside0.mk A52
   try dsimp only at H
   try simp only [c35, Bool.not_true, Bool.not_false]
   refine wp_cond_true rfl ?_
   refine wp_skip ?_
   (try simp only [Exit.then, Exit.inBlock, ↓reduceIte, Nat.reduceEqDiff])
   refine hK34 _ _ ?_
   refine wp_seq_k (fun K36 hK36 => ?_)
   refine wp_block ?_
   refine wp_seq_k (fun K37 hK37 => ?_)
   refine wp_region_lit ?_
   refine step_index e2 (T := 26) (wanted_none rfl) rfl (by kernel_rfl) (by kernel_rfl) rfl rfl rfl h25.rd A40.out ?_
   intro ad41 hat he
   have he42 := Aside0.mk he
   have hat43 := Aside0.mk hat
   clear he hat
   simp only [Act.put, nm1, nm2, nm3, i64_w]
   have cl0 := he42.out 0 _ rfl
   rw [addr_add0] at cl0
   have cl1 : World.cell? _ ⟨ad41.block, ad41.off + 1, none⟩ = some _ := he42.out 1 _ rfl
   refine wpList_plain rfl (fun Ko hKo => ?_)
   go_simp
   refine hKo _ _ ?_
   clear hKo Ko
   clear cl0 cl1
   try simp only [Act.put, nm1, nm2, nm3, i64_w]
   refine step_new (cs := [.int .i64 0, .int .i64 0]) (T := 26) (f := fun b => .pointer (some ⟨b, 0, none⟩)) rfl (by first | (go_simp; done) | (go_simp; rfl)) ?_
   intro b44 w45 hu lb hb44
   simp only [Act.put, nm1, nm2, nm3, i64_w]
   have lbb44 := Aside0.mk lb
   have ltb44 := Aside0.mk hb44.lt
   clear lb
   have hu46 := Aside0.mk hu
   clear hu
   have hB0 := hb44
   have cl0 := hB0.cell (o := 0) rfl
   have fr0 := hB0.free 0
   have cl1 := hB0.cell (o := 1) rfl
   have fr1 := hB0.free 1
   refine step_store (b := b44) (cs' := [.int .i64 t38, .int .i64 t39]) (T := 26) (W' := ((w45.setCell ⟨b44, 0, none⟩ (.int .i64 t38)).setCell ⟨b44, 1, none⟩ (.int .i64 t39))) rfl rfl (by first | (go_simp; done) | (go_simp; rfl)) (((Sto.refl _ _).setCell 0 _).setCell 1 _) (((hB0).setCell 0 _).setCell 1 _) ?_
   clear hB0 cl0 fr0 cl1 fr1
   intro w47 hs hb49
   have hs48 := Aside0.mk hs
   clear hs
   refine wpList_nil ?_
   (try simp only [Exit.then, Exit.inBlock, ↓reduceIte, Nat.reduceEqDiff])
   refine hK37 _ _ ?_
   refine wp_seq_k (fun K50 hK50 => ?_)
   refine wp_region_lit ?_
   refine wpList_plain rfl (fun Ko hKo => ?_)
   go_simp
   refine hKo _ _ ?_
   clear hKo Ko
   try simp only [Act.put, nm1, nm2, nm3, i64_w]
   have cl0 := hb49.cell (o := 0) rfl
   have cl1 := hb49.cell (o := 1) rfl
   refine wpList_plain rfl (fun Ko hKo => ?_)
   go_simp
   refine hKo _ _ ?_
   clear hKo Ko
   clear cl0 cl1
   try simp only [Act.put, nm1, nm2, nm3, i64_w]
   refine step_call (wanted_none rfl) (by first | (go_simp; done) | (go_simp; rfl)) (impl_pointsAt_1.calls K t38 t39 bc1_0 c1_0_0 bc1_1 c1_1_0 bc1_2 c1_2_0 c1_2_1 bc1_3 c1_3_0 t51 w47 (hc1_0.up ((hu22.out.trans hu46.out).sto (Nat.le_trans ((Nat.le_trans ((Nat.le_trans (hu5.out.size) hu13.out.size)) hz23.out)) lbb44.out) hs48.out)) (hc1_1.up ((hu22.out.trans hu46.out).sto (Nat.le_trans ((Nat.le_trans ((Nat.le_trans (hu5.out.size) hu13.out.size)) hz23.out)) lbb44.out) hs48.out)) (hc1_2.up ((hu22.out.trans hu46.out).sto (Nat.le_trans ((Nat.le_trans ((Nat.le_trans (hu5.out.size) hu13.out.size)) hz23.out)) lbb44.out) hs48.out)) (hc1_3.up ((hu22.out.trans hu46.out).sto (Nat.le_trans ((Nat.le_trans ((Nat.le_trans (hu5.out.size) hu13.out.size)) hz23.out)) lbb44.out) hs48.out)) A52.out) ?_
   rintro e w53 ⟨rfl, hu⟩
   have hu54 := Aside0.mk hu
   clear hu
   refine ⟨_, rfl, ?_⟩
   simp only [Act.put, nm1, nm2, nm3, i64_w]
   refine wpList_nil ?_
   (try simp only [Exit.then, Exit.inBlock, ↓reduceIte, Nat.reduceEqDiff])
   refine hK50 _ _ ?_
   have hm56 := Aside0.mk (((hu22.out.trans hu46.out).sto (Nat.le_trans ((Nat.le_trans ((Nat.le_trans (hu5.out.size) hu13.out.size)) hz23.out)) lbb44.out) hs48.out).trans hu54.out)
   have hm57 := Aside0.mk (Nat.le_trans ((Nat.le_trans ((Nat.le_trans ((Nat.le_trans ((Nat.le_trans (hu5.out.size) hu13.out.size)) hz23.out)) hu46.out.size)) (Nat.le_of_eq hs48.out.size.symm))) hu54.out.size)
   have hm58 := Aside0.mk (Nat.le_trans ((Nat.le_trans ((Nat.le_trans ((Nat.le_trans (Nat.le_refl _) hz23.out)) hu46.out.size)) (Nat.le_of_eq hs48.out.size.symm))) hu54.out.size)
   by_cases c55 : (t51) = true
   ·
    rw [if_pos c55] at H
    subst c55
    refine wp_cond_true rfl ?_
    refine wp_region_lit ?_
    refine wpList_plain rfl (fun Ko hKo => ?_)
    go_simp
    refine hKo _ _ ?_
    clear hKo Ko
    try simp only [Act.put, nm1, nm2, nm3, i64_w]
    have cl0 := (hb49.up hu54.out).cell (o := 0) rfl
    have cl1 := (hb49.up hu54.out).cell (o := 1) rfl
    refine wpList_plain rfl (fun Ko hKo => ?_)
    go_simp
    refine hKo _ _ ?_
    clear hKo Ko
    clear cl0 cl1
    try simp only [Act.put, nm1, nm2, nm3, i64_w]
    refine step_new (cs := [.int .i64 t38, .int .i64 t39]) (T := 26) (f := fun b => .slice (some ⟨b, 0, none⟩) 1 1) rfl (by first | (go_simp; done) | (go_simp; rfl)) ?_
    intro b59 w60 hu lb hb59
    simp only [Act.put, nm1, nm2, nm3, i64_w]
    have lbb59 := Aside0.mk lb
    have ltb59 := Aside0.mk hb59.lt
    clear lb
    have hu61 := Aside0.mk hu
    clear hu
    by_cases c62 : (decide (x18.length ≤ 1000000)) = true
    ·
     rw [if_pos c62] at H
     have HL74 := Aside0.mk H
     clear H
     try simp only [c62, Bool.not_true, Bool.not_false]
     have hO0 := Aside0.mk (h26.up (((hu46.out.sto (Nat.le_trans (Nat.le_refl _) lbb44.out) hs48.out).trans hu54.out).trans hu61.out))
     refine step_append e2 (z := .agg #[.int .i64 0, .int .i64 0]) (bytes := 16) (base := w.heap.size) (xs := x18) (ys := [(t38, t39)]) (wanted_none rfl) _ _ rfl rfl (by kernel_rfl) rfl (by decide) rfl rfl rfl hO0.out (Rd.of_blk (E := e2) (xs := [(t38, t39)]) (o := 0) hb59 (by simp) (fun j u hu => by rcases j with _ | _ | j <;> simp_all [Enc.flat, e2])) ((Nat.le_trans (hm57.out) hu61.out.size)) (by have h0_ := (of_decide_eq_true (by assumption) : x18.length ≤ 1000000); (try simp only [List.length_cons, List.length_nil]); omega) ?_
     intro P63 q64 w65 h67 hg hat
     have hg68 := Aside0.mk hg
     have hat69 := Aside0.mk hat
     simp only [Act.put, nm1, nm2, nm3, i64_w]
     have lb70 := Aside0.mk hO0.out.lt
     clear hO0 hg hat
     have h71 := (h25.up (((hu46.out.sto (Nat.le_trans (Nat.le_refl _) lbb44.out) hs48.out).trans hu54.out).trans hu61.out)).grow hg68.out hn27.out
     have h72 := (hb49.up (hu54.out.trans hu61.out)).grow hg68.out (fun k hk => Nat.ne_of_lt (Nat.lt_of_lt_of_le ((fun k hk => Nat.lt_of_lt_of_le (h26.lt k hk).2 (Nat.le_refl _)) k hk) lbb44.out))
     have h73 := hb59.grow hg68.out (fun k hk => Nat.ne_of_lt (Nat.lt_of_lt_of_le ((fun k hk => Nat.lt_of_lt_of_le (h26.lt k hk).2 ((Nat.le_trans ((Nat.le_trans (hu46.out.size) (Nat.le_of_eq hs48.out.size.symm))) hu54.out.size))) k hk) lbb59.out))
     refine wpList_plain rfl (fun Ko hKo => ?_)
     go_simp
     refine hKo _ _ ?_
     clear hKo Ko
     try simp only [Act.put, nm1, nm2, nm3, i64_w]
     refine wpList_nil ?_
     (try simp only [Exit.then, Exit.inBlock, ↓reduceIte, Nat.reduceEqDiff])
     refine hK36 _ _ ?_
     refine wp_region_lit ?_
     refine wpList_plain rfl (fun Ko hKo => ?_)
     go_simp
     refine hKo _ _ ?_
     clear hKo Ko
     try simp only [Act.put, nm1, nm2, nm3, i64_w]
     refine wpList_plain rfl (fun Ko hKo => ?_)
     go_simp
     refine hKo _ _ ?_
     clear hKo Ko
     try simp only [Act.put, nm1, nm2, nm3, i64_w]
     refine wpList_nil ?_
     (try simp only [Exit.then, Exit.inBlock, ↓reduceIte, Nat.reduceEqDiff])
     refine hK32 _ _ ?_
     go_roundg k28
     case measure => exact Nat.lt_succ_self _
     case rel => exact ⟨wrap64 (x17 + 1), (x18 ++ [(t38, t39)]), P63, q64, (by first | rfl | simp), (by first | rfl | simp), HL74, ⟨by have := hk29.out; omega⟩, ⟨((hm56.out.trans hu61.out).grow hg68.out (fun k hk => Nat.le_trans (Nat.le_refl _) ((fun k hk => (lb70.out k hk).1) k hk)))⟩, ⟨(Nat.le_trans ((Nat.le_trans (hm58.out) hu61.out.size)) hg68.out.size)⟩, h71, h67, ⟨(fun k l hk hl => hat69.out.elim (fun e => hn27.out k l (e.symm.trans hk) hl) (fun g => Nat.ne_of_gt (Nat.lt_of_lt_of_le ((fun k hk => Nat.lt_of_lt_of_le (ht8.lt k hk).2 ((Nat.le_trans (hm58.out) hu61.out.size))) l hl) (g k hk))))⟩⟩
    ·
     rw [if_neg c62] at H
     replace c62 := Bool.eq_false_iff.mpr c62
     exact absurd H (by simp)
   ·
    rw [if_neg c55] at H
    replace c55 := Bool.eq_false_iff.mpr c55
    subst c55
    have HL75 := Aside0.mk H
    clear H
    refine wp_cond_false rfl ?_
    refine wp_skip ?_
    (try simp only [Exit.then, Exit.inBlock, ↓reduceIte, Nat.reduceEqDiff])
    refine hK36 _ _ ?_
    refine wp_region_lit ?_
    refine wpList_plain rfl (fun Ko hKo => ?_)
    go_simp
    refine hKo _ _ ?_
    clear hKo Ko
    try simp only [Act.put, nm1, nm2, nm3, i64_w]
    refine wpList_plain rfl (fun Ko hKo => ?_)
    go_simp
    refine hKo _ _ ?_
    clear hKo Ko
    try simp only [Act.put, nm1, nm2, nm3, i64_w]
    refine wpList_nil ?_
    (try simp only [Exit.then, Exit.inBlock, ↓reduceIte, Nat.reduceEqDiff])
    refine hK32 _ _ ?_
    go_roundg k28
    case measure => exact Nat.lt_succ_self _
    case rel => exact ⟨wrap64 (x17 + 1), x18, P19, q20, (by first | rfl | simp), (by first | rfl | simp), HL75, ⟨by have := hk29.out; omega⟩, ⟨hm56.out⟩, ⟨hm58.out⟩, (h25.up ((hu46.out.sto (Nat.le_trans (Nat.le_refl _) lbb44.out) hs48.out).trans hu54.out)), (h26.up ((hu46.out.sto (Nat.le_trans (Nat.le_refl _) lbb44.out) hs48.out).trans hu54.out)), ⟨hn27.out⟩⟩
  ·
   rw [if_neg c35] at H
   replace c35 := Bool.eq_false_iff.mpr c35
   obtain rfl := Option.some.inj H
   try simp only [c35, Bool.not_true, Bool.not_false]
   refine wp_cond_false rfl ?_
   refine wp_exit ?_
   (try simp only [Exit.then, Exit.inBlock, ↓reduceIte, Nat.reduceEqDiff])
   refine hK6 _ _ ?_
   refine wp_seq_k (fun K76 hK76 => ?_)
   refine wp_region_lit ?_
   refine wpList_plain rfl (fun Ko hKo => ?_)
   go_simp
   refine hKo _ _ ?_
   clear hKo Ko
   try simp only [Act.put, nm1, nm2, nm3, i64_w]
   refine wpList_plain rfl (fun Ko hKo => ?_)
   go_simp
   refine hKo _ _ ?_
   clear hKo Ko
   try simp only [Act.put, nm1, nm2, nm3, i64_w]
   refine wpList_nil ?_
   (try simp only [Exit.then, Exit.inBlock, ↓reduceIte, Nat.reduceEqDiff])
   refine hK76 _ _ ?_
   refine wp_ret ?_
   (try simp only [Exit.then, Exit.inBlock, ↓reduceIte, Nat.reduceEqDiff])
   refine hQf _ _ _ ?_
   exact bodyPost_ret (v := .slice P19 x18.length q20) (by first | rfl | (simp [results, Try.results115, go_sem]; done) | (simp [results, Try.results115, go_sem]; rfl)) rfl ⟨P19, q20, rfl, (h26.lower (Nat.le_refl _)), hu22.out⟩

set_option maxHeartbeats 40000000 in
set_option maxRecDepth 100000 in
theorem impl_pointsAt.calls (K : Nat) (a0 : Int) (a1 : Int) (a2_0 : Int) (a2_1 : Int) (a3 : Int) (r0 : List (Int × Int)) (w : World)  (h : impl_pointsAt.f K a0 a1 a2_0 a2_1 a3 = some (r0)) :
    Calls Try.prog 139 #[.int .i64 a0, .int .i64 a1, .agg #[.int .i64 a2_0, .int .i64 a2_1], .int .i64 a3] w fun e w' => ∃ (Ar0 : Option Addr) (cr0 : Nat), e = .returned (.slice Ar0 r0.length cr0) ∧ Own e2 26 w' w.heap.size (.slice Ar0 r0.length cr0) r0 ∧ Up w w' := by
 have H : (((impl_pointsWith__impl_pointsAt_1.f K a0 a0 a1 a2_0 a2_1 a3).bind fun t15 => some t15) : Option (List (Int × Int))) = some (r0) := h
 clear h
 replace H := Option.bind_eq_some_iff.mp H
 obtain ⟨t15, A18, H⟩ := H
 replace A18 := Aside0.mk A18
 try dsimp only at H
 obtain rfl := Option.some.inj H
 go_enter Try.func139, Try.ntmps139
 refine wp_hide (fun Qf hQf => ?_)
 refine wp_seq_k (fun K1 hK1 => ?_)
 refine wp_region_lit ?_
 refine step_new (cs := [.int .i64 a0]) (T := 2) (f := fun b => .pointer (some ⟨b, 0, none⟩)) rfl (by first | (go_simp; done) | (go_simp; rfl)) ?_
 intro b2 w3 hu lb hb2
 simp only [Act.put, nm1, nm2, nm3, i64_w]
 have lbb2 := Aside0.mk lb
 have ltb2 := Aside0.mk hb2.lt
 clear lb
 have hu4 := Aside0.mk hu
 clear hu
 refine step_new (cs := [.int .i64 a1]) (T := 2) (f := fun b => .pointer (some ⟨b, 0, none⟩)) rfl (by first | (go_simp; done) | (go_simp; rfl)) ?_
 intro b5 w6 hu lb hb5
 simp only [Act.put, nm1, nm2, nm3, i64_w]
 have lbb5 := Aside0.mk lb
 have ltb5 := Aside0.mk hb5.lt
 clear lb
 have hu7 := Aside0.mk hu
 clear hu
 refine step_new (cs := [.int .i64 a2_0, .int .i64 a2_1]) (T := 26) (f := fun b => .pointer (some ⟨b, 0, none⟩)) rfl (by first | (go_simp; done) | (go_simp; rfl)) ?_
 intro b8 w9 hu lb hb8
 simp only [Act.put, nm1, nm2, nm3, i64_w]
 have lbb8 := Aside0.mk lb
 have ltb8 := Aside0.mk hb8.lt
 clear lb
 have hu10 := Aside0.mk hu
 clear hu
 refine step_new (cs := [.int .i64 a3]) (T := 2) (f := fun b => .pointer (some ⟨b, 0, none⟩)) rfl (by first | (go_simp; done) | (go_simp; rfl)) ?_
 intro b11 w12 hu lb hb11
 simp only [Act.put, nm1, nm2, nm3, i64_w]
 have lbb11 := Aside0.mk lb
 have ltb11 := Aside0.mk hb11.lt
 clear lb
 have hu13 := Aside0.mk hu
 clear hu
 refine wpList_plain rfl (fun Ko hKo => ?_)
 go_simp
 refine hKo _ _ ?_
 clear hKo Ko
 try simp only [Act.put, nm1, nm2, nm3, i64_w]
 refine wpList_nil ?_
 (try simp only [Exit.then, Exit.inBlock, ↓reduceIte, Nat.reduceEqDiff])
 refine hK1 _ _ ?_
 refine wp_seq_k (fun K14 hK14 => ?_)
 refine wp_region_lit ?_
 have cl0 := (hb2.up ((hu7.out.trans hu10.out).trans hu13.out)).cell (o := 0) rfl
 refine wpList_plain rfl (fun Ko hKo => ?_)
 go_simp
 refine hKo _ _ ?_
 clear hKo Ko
 clear cl0
 try simp only [Act.put, nm1, nm2, nm3, i64_w]
 refine wpList_plain rfl (fun Ko hKo => ?_)
 go_simp
 refine hKo _ _ ?_
 clear hKo Ko
 try simp only [Act.put, nm1, nm2, nm3, i64_w]
 refine step_call (wanted_none rfl) (by first | (go_simp; done) | (go_simp; rfl)) (impl_pointsWith__impl_pointsAt_1.calls K a0 b2 a0 b5 a1 b8 a2_0 a2_1 b11 a3 t15 w12 (hb2.up ((hu7.out.trans hu10.out).trans hu13.out)) (hb5.up (hu10.out.trans hu13.out)) (hb8.up hu13.out) hb11 A18.out) ?_
 rintro e w19 ⟨P16, q17, rfl, ht15, hu⟩
 have hu20 := Aside0.mk hu
 clear hu
 refine ⟨_, rfl, ?_⟩
 simp only [Act.put, nm1, nm2, nm3, i64_w]
 refine wpList_plain rfl (fun Ko hKo => ?_)
 go_simp
 refine hKo _ _ ?_
 clear hKo Ko
 try simp only [Act.put, nm1, nm2, nm3, i64_w]
 refine wpList_nil ?_
 (try simp only [Exit.then, Exit.inBlock, ↓reduceIte, Nat.reduceEqDiff])
 refine hK14 _ _ ?_
 refine wp_ret ?_
 (try simp only [Exit.then, Exit.inBlock, ↓reduceIte, Nat.reduceEqDiff])
 refine hQf _ _ _ ?_
 exact bodyPost_ret (v := .slice P16 t15.length q17) (by first | rfl | (simp [results, Try.results139, go_sem]; done) | (simp [results, Try.results139, go_sem]; rfl)) rfl ⟨P16, q17, rfl, (ht15.lower ((Nat.le_trans ((Nat.le_trans ((Nat.le_trans (hu4.out.size) hu7.out.size)) hu10.out.size)) hu13.out.size))), ((((hu4.out.trans hu7.out).trans hu10.out).trans hu13.out).trans hu20.out)⟩

set_option maxHeartbeats 40000000 in
set_option maxRecDepth 100000 in
theorem impl_turned.calls (K : Nat) (a0 : Int) (a1_0 : Int) (a1_1 : Int) (a1_2 : Int) (a1_3 : Int) (a2_0 : Int) (a2_1 : Int) (r0 : Int) (r1 : Int) (w : World)  (h : impl_turned.f K a0 a1_0 a1_1 a1_2 a1_3 a2_0 a2_1 = some (r0, r1)) :
    Calls Try.prog 72 #[.int .i64 a0, .agg #[.int .i64 a1_0, .int .i64 a1_1, .int .i64 a1_2, .int .i64 a1_3], .agg #[.int .i64 a2_0, .int .i64 a2_1]] w fun e w' => e = .returned (.agg #[.int .i64 r0, .int .i64 r1]) ∧ Up w w' := by
 have H : (((impl_rest.f K a0 (wrap64 ((wrap64 (a1_0 * a2_0)) + (wrap64 (a1_1 * a2_1))))).bind fun t12 => ((impl_rest.f K a0 (wrap64 ((wrap64 (a1_2 * a2_0)) + (wrap64 (a1_3 * a2_1))))).bind fun t14 => some (t12, t14))) : Option (Int × Int)) = some (r0, r1) := h
 clear h
 replace H := Option.bind_eq_some_iff.mp H
 obtain ⟨t12, A13, H⟩ := H
 replace A13 := Aside0.mk A13
 try dsimp only at H
 replace H := Option.bind_eq_some_iff.mp H
 obtain ⟨t14, A15, H⟩ := H
 replace A15 := Aside0.mk A15
 try dsimp only at H
 simp only [Option.some.injEq, Prod.mk.injEq] at H
 obtain ⟨rfl, rfl⟩ := H
 go_enter Try.func72, Try.ntmps72
 refine wp_hide (fun Qf hQf => ?_)
 refine wp_seq_k (fun K1 hK1 => ?_)
 refine wp_region_lit ?_
 refine step_new (cs := [.int .i64 a1_0, .int .i64 a1_1, .int .i64 a1_2, .int .i64 a1_3]) (T := 22) (f := fun b => .pointer (some ⟨b, 0, none⟩)) rfl (by first | (go_simp; done) | (go_simp; rfl)) ?_
 intro b2 w3 hu lb hb2
 simp only [Act.put, nm1, nm2, nm3, i64_w]
 have lbb2 := Aside0.mk lb
 have ltb2 := Aside0.mk hb2.lt
 clear lb
 have hu4 := Aside0.mk hu
 clear hu
 refine step_new (cs := [.int .i64 a2_0, .int .i64 a2_1]) (T := 26) (f := fun b => .pointer (some ⟨b, 0, none⟩)) rfl (by first | (go_simp; done) | (go_simp; rfl)) ?_
 intro b5 w6 hu lb hb5
 simp only [Act.put, nm1, nm2, nm3, i64_w]
 have lbb5 := Aside0.mk lb
 have ltb5 := Aside0.mk hb5.lt
 clear lb
 have hu7 := Aside0.mk hu
 clear hu
 refine step_new (cs := [.int .i64 0, .int .i64 0]) (T := 26) (f := fun b => .pointer (some ⟨b, 0, none⟩)) rfl (by first | (go_simp; done) | (go_simp; rfl)) ?_
 intro b8 w9 hu lb hb8
 simp only [Act.put, nm1, nm2, nm3, i64_w]
 have lbb8 := Aside0.mk lb
 have ltb8 := Aside0.mk hb8.lt
 clear lb
 have hu10 := Aside0.mk hu
 clear hu
 refine wpList_nil ?_
 (try simp only [Exit.then, Exit.inBlock, ↓reduceIte, Nat.reduceEqDiff])
 refine hK1 _ _ ?_
 refine wp_seq_k (fun K11 hK11 => ?_)
 refine' wp_region_up 27 [Slot.det _, Slot.det _, Slot.det _, Slot.det _, Slot.det _, Slot.det _, Slot.det _, Slot.det _, Slot.det _, Slot.det _, Slot.det _, Slot.det _, Slot.det (.int .i64 t12), Slot.det _, Slot.det _, Slot.det _, Slot.det _, Slot.det _, Slot.det _, Slot.det _, Slot.det _, Slot.det _, Slot.det _, Slot.det _, Slot.det _, Slot.det (.int .i64 t14), Slot.det _] (by kernel_rfl) (by kernel_rfl) ?main
 case main =>
  simp only [List.take_succ_cons, List.take_zero]
  refine wpK_ops rfl (fun w1 hu => ?_) ?_
  · clear hu
    go_simp
    first | done | rfl
  simp only [Act.put, nm1, nm2, nm3, i64_w]
  refine wpK_ops rfl (fun w1 hu => ?_) ?_
  · clear hu
    go_simp
    first | done | rfl
  simp only [Act.put, nm1, nm2, nm3, i64_w]
  refine wpK_ops rfl (fun w1 hu => ?_) ?_
  · have cl0 := ((hb2.up (hu7.out.trans hu10.out)).up ((Up.refl _).drew.trans hu)).cell (o := 0) rfl
    go_simp
    first | done | rfl
  simp only [Act.put, nm1, nm2, nm3, i64_w]
  refine wpK_ops rfl (fun w1 hu => ?_) ?_
  · clear hu
    go_simp
    first | done | rfl
  simp only [Act.put, nm1, nm2, nm3, i64_w]
  refine wpK_ops rfl (fun w1 hu => ?_) ?_
  · have cl0 := ((hb5.up hu10.out).up ((Up.refl _).drew.trans hu)).cell (o := 0) rfl
    go_simp
    first | done | rfl
  simp only [Act.put, nm1, nm2, nm3, i64_w]
  refine wpK_ops rfl (fun w1 hu => ?_) ?_
  · clear hu
    go_simp
    first | done | rfl
  simp only [Act.put, nm1, nm2, nm3, i64_w]
  refine wpK_ops rfl (fun w1 hu => ?_) ?_
  · clear hu
    go_simp
    first | done | rfl
  simp only [Act.put, nm1, nm2, nm3, i64_w]
  refine wpK_ops rfl (fun w1 hu => ?_) ?_
  · have cl0 := ((hb2.up (hu7.out.trans hu10.out)).up ((Up.refl _).drew.trans hu)).cell (o := 1) rfl
    go_simp
    first | done | rfl
  simp only [Act.put, nm1, nm2, nm3, i64_w]
  refine wpK_ops rfl (fun w1 hu => ?_) ?_
  · clear hu
    go_simp
    first | done | rfl
  simp only [Act.put, nm1, nm2, nm3, i64_w]
  refine wpK_ops rfl (fun w1 hu => ?_) ?_
  · have cl0 := ((hb5.up hu10.out).up ((Up.refl _).drew.trans hu)).cell (o := 1) rfl
    go_simp
    first | done | rfl
  simp only [Act.put, nm1, nm2, nm3, i64_w]
  refine wpK_ops rfl (fun w1 hu => ?_) ?_
  · clear hu
    go_simp
    first | done | rfl
  simp only [Act.put, nm1, nm2, nm3, i64_w]
  refine wpK_ops rfl (fun w1 hu => ?_) ?_
  · clear hu
    go_simp
    first | done | rfl
  simp only [Act.put, nm1, nm2, nm3, i64_w]
  refine wpK_ops rfl (fun w1 hu => ?_) ?_
  · have hcl := (impl_rest.calls K a0 (wrap64 ((wrap64 (a1_0 * a2_0)) + (wrap64 (a1_1 * a2_1)))) t12 w1  A13.out)
    clear hu
    replace hcl := Aside0.mk hcl
    go_simp
    exact hcl.out
  simp only [Act.put, nm1, nm2, nm3, i64_w]
  refine wpK_ops rfl (fun w1 hu => ?_) ?_
  · clear hu
    go_simp
    first | done | rfl
  simp only [Act.put, nm1, nm2, nm3, i64_w]
  refine wpK_ops rfl (fun w1 hu => ?_) ?_
  · clear hu
    go_simp
    first | done | rfl
  simp only [Act.put, nm1, nm2, nm3, i64_w]
  refine wpK_ops rfl (fun w1 hu => ?_) ?_
  · have cl0 := ((hb2.up (hu7.out.trans hu10.out)).up ((Up.refl _).drew.trans hu)).cell (o := 2) rfl
    go_simp
    first | done | rfl
  simp only [Act.put, nm1, nm2, nm3, i64_w]
  refine wpK_ops rfl (fun w1 hu => ?_) ?_
  · clear hu
    go_simp
    first | done | rfl
  simp only [Act.put, nm1, nm2, nm3, i64_w]
  refine wpK_ops rfl (fun w1 hu => ?_) ?_
  · have cl0 := ((hb5.up hu10.out).up ((Up.refl _).drew.trans hu)).cell (o := 0) rfl
    go_simp
    first | done | rfl
  simp only [Act.put, nm1, nm2, nm3, i64_w]
  refine wpK_ops rfl (fun w1 hu => ?_) ?_
  · clear hu
    go_simp
    first | done | rfl
  simp only [Act.put, nm1, nm2, nm3, i64_w]
  refine wpK_ops rfl (fun w1 hu => ?_) ?_
  · clear hu
    go_simp
    first | done | rfl
  simp only [Act.put, nm1, nm2, nm3, i64_w]
  refine wpK_ops rfl (fun w1 hu => ?_) ?_
  · have cl0 := ((hb2.up (hu7.out.trans hu10.out)).up ((Up.refl _).drew.trans hu)).cell (o := 3) rfl
    go_simp
    first | done | rfl
  simp only [Act.put, nm1, nm2, nm3, i64_w]
  refine wpK_ops rfl (fun w1 hu => ?_) ?_
  · clear hu
    go_simp
    first | done | rfl
  simp only [Act.put, nm1, nm2, nm3, i64_w]
  refine wpK_ops rfl (fun w1 hu => ?_) ?_
  · have cl0 := ((hb5.up hu10.out).up ((Up.refl _).drew.trans hu)).cell (o := 1) rfl
    go_simp
    first | done | rfl
  simp only [Act.put, nm1, nm2, nm3, i64_w]
  refine wpK_ops rfl (fun w1 hu => ?_) ?_
  · clear hu
    go_simp
    first | done | rfl
  simp only [Act.put, nm1, nm2, nm3, i64_w]
  refine wpK_ops rfl (fun w1 hu => ?_) ?_
  · clear hu
    go_simp
    first | done | rfl
  simp only [Act.put, nm1, nm2, nm3, i64_w]
  refine wpK_ops rfl (fun w1 hu => ?_) ?_
  · have hcl := (impl_rest.calls K a0 (wrap64 ((wrap64 (a1_2 * a2_0)) + (wrap64 (a1_3 * a2_1)))) t14 w1  A15.out)
    clear hu
    replace hcl := Aside0.mk hcl
    go_simp
    exact hcl.out
  simp only [Act.put, nm1, nm2, nm3, i64_w]
  refine wpK_ops rfl (fun w1 hu => ?_) ?_
  · clear hu
    go_simp
    first | done | rfl
  simp only [Act.put, nm1, nm2, nm3, i64_w]
  refine wpK_nil ?_
  intro w16 hu hap
  simp only [List.drop_succ_cons, List.drop_zero]
  replace hu := (Up.refl _).drew.trans hu
  clear hap
  have hu17 := Aside0.mk hu
  clear hu
  have hB0 := (hb8.up hu17.out)
  have cl0 := hB0.cell (o := 0) rfl
  have fr0 := hB0.free 0
  have cl1 := hB0.cell (o := 1) rfl
  have fr1 := hB0.free 1
  refine step_store (b := b8) (cs' := [.int .i64 t12, .int .i64 t14]) (T := 26) (W' := ((w16.setCell ⟨b8, 0, none⟩ (.int .i64 t12)).setCell ⟨b8, 1, none⟩ (.int .i64 t14))) rfl rfl (by first | (go_simp; done) | (go_simp; rfl)) (((Sto.refl _ _).setCell 0 _).setCell 1 _) (((hB0).setCell 0 _).setCell 1 _) ?_
  clear hB0 cl0 fr0 cl1 fr1
  intro w18 hs hb20
  have hs19 := Aside0.mk hs
  clear hs
  refine wpList_nil ?_
  (try simp only [Exit.then, Exit.inBlock, ↓reduceIte, Nat.reduceEqDiff])
  refine hK11 _ _ ?_
  refine wp_ret ?_
  (try simp only [Exit.then, Exit.inBlock, ↓reduceIte, Nat.reduceEqDiff])
  refine hQf _ _ _ ?_
  have cr0 := hb20.cell (o := 0) rfl
  have cr1 := hb20.cell (o := 1) rfl
  exact bodyPost_ret (v := .agg #[.int .i64 t12, .int .i64 t14]) (by first | rfl | (simp [results, Try.results72, go_sem, cr0, cr1]; done) | (simp [results, Try.results72, go_sem, cr0, cr1]; rfl)) rfl ⟨rfl, ((((hu4.out.trans hu7.out).trans hu10.out).trans hu17.out).sto (Nat.le_trans ((Nat.le_trans (hu4.out.size) hu7.out.size)) lbb8.out) hs19.out)⟩

set_option maxHeartbeats 40000000 in
set_option maxRecDepth 100000 in
theorem impl_keeps.calls (K : Nat) (a0 : Int) (a1 : Int) (a2_0 : Int) (a2_1 : Int) (a2_2 : Int) (a2_3 : Int) (r0 : Bool) (w : World)  (h : impl_keeps.f K a0 a1 a2_0 a2_1 a2_2 a2_3 = some (r0)) :
    Calls Try.prog 57 #[.int .i64 a0, .int .i64 a1, .agg #[.int .i64 a2_0, .int .i64 a2_1, .int .i64 a2_2, .int .i64 a2_3]] w fun e w' => e = .returned (.bool r0) ∧ Up w w' := by
 have H : (((impl_turned.f K a0 a2_0 a2_1 a2_2 a2_3 1 0).bind fun (t22, t23) => ((impl_product.f K a0 a1 1 0 1 0).bind fun t34 => ((impl_product.f K a0 a1 t22 t23 t22 t23).bind fun t36 => (if (t34 == t36) = true then ((impl_turned.f K a0 a2_0 a2_1 a2_2 a2_3 0 1).bind fun (t58, t59) => ((impl_product.f K a0 a1 0 1 0 1).bind fun t70 => ((impl_product.f K a0 a1 t58 t59 t58 t59).bind fun t72 => (if (t70 == t72) = true then ((impl_turned.f K a0 a2_0 a2_1 a2_2 a2_3 1 1).bind fun (t96, t97) => ((impl_product.f K a0 a1 1 1 1 1).bind fun t108 => ((impl_product.f K a0 a1 t96 t97 t96 t97).bind fun t110 => (if (t108 == t110) = true then some true else some false)))) else some false)))) else some false)))) : Option (Bool)) = some (r0) := h
 clear h
 replace H := Option.bind_eq_some_iff.mp H
 obtain ⟨⟨t22, t23⟩, A24, H⟩ := H
 replace A24 := Aside0.mk A24
 try dsimp only at H
 replace H := Option.bind_eq_some_iff.mp H
 obtain ⟨t34, A35, H⟩ := H
 replace A35 := Aside0.mk A35
 try dsimp only at H
 replace H := Option.bind_eq_some_iff.mp H
 obtain ⟨t36, A37, H⟩ := H
 replace A37 := Aside0.mk A37
 try dsimp only at H
 go_enter Try.func57, Try.ntmps57
 refine wp_hide (fun Qf hQf => ?_)
 refine wp_seq_k (fun K1 hK1 => ?_)
 refine wp_region_lit ?_
 refine step_new (cs := [.int .i64 a2_0, .int .i64 a2_1, .int .i64 a2_2, .int .i64 a2_3]) (T := 22) (f := fun b => .pointer (some ⟨b, 0, none⟩)) rfl (by first | (go_simp; done) | (go_simp; rfl)) ?_
 intro b2 w3 hu lb hb2
 simp only [Act.put, nm1, nm2, nm3, i64_w]
 have lbb2 := Aside0.mk lb
 have ltb2 := Aside0.mk hb2.lt
 clear lb
 have hu4 := Aside0.mk hu
 clear hu
 refine wpList_plain rfl (fun Ko hKo => ?_)
 go_simp
 refine hKo _ _ ?_
 clear hKo Ko
 try simp only [Act.put, nm1, nm2, nm3, i64_w]
 refine wpList_nil ?_
 (try simp only [Exit.then, Exit.inBlock, ↓reduceIte, Nat.reduceEqDiff])
 refine hK1 _ _ ?_
 refine wp_seq_k (fun K5 hK5 => ?_)
 refine wp_seq_k (fun K6 hK6 => ?_)
 refine wp_region_lit ?_
 refine wpList_plain rfl (fun Ko hKo => ?_)
 go_simp
 refine hKo _ _ ?_
 clear hKo Ko
 try simp only [Act.put, nm1, nm2, nm3, i64_w]
 refine wpList_plain rfl (fun Ko hKo => ?_)
 go_simp
 refine hKo _ _ ?_
 clear hKo Ko
 try simp only [Act.put, nm1, nm2, nm3, i64_w]
 refine wpList_plain rfl (fun Ko hKo => ?_)
 go_simp
 refine hKo _ _ ?_
 clear hKo Ko
 try simp only [Act.put, nm1, nm2, nm3, i64_w]
 refine step_new (cs := [.int .i64 1, .int .i64 0, .int .i64 0, .int .i64 1, .int .i64 1, .int .i64 1]) (T := 26) (f := fun b => .slice (some ⟨b, 0, none⟩) 3 3) rfl (by first | (go_simp; done) | (go_simp; rfl)) ?_
 intro b7 w8 hu lb hb7
 simp only [Act.put, nm1, nm2, nm3, i64_w]
 have lbb7 := Aside0.mk lb
 have ltb7 := Aside0.mk hb7.lt
 clear lb
 have hu9 := Aside0.mk hu
 clear hu
 refine wpList_plain rfl (fun Ko hKo => ?_)
 go_simp
 refine hKo _ _ ?_
 clear hKo Ko
 try simp only [Act.put, nm1, nm2, nm3, i64_w]
 refine wpList_plain rfl (fun Ko hKo => ?_)
 go_simp
 refine hKo _ _ ?_
 clear hKo Ko
 try simp only [Act.put, nm1, nm2, nm3, i64_w]
 refine wpList_nil ?_
 (try simp only [Exit.then, Exit.inBlock, ↓reduceIte, Nat.reduceEqDiff])
 refine hK6 _ _ ?_
 refine wp_block ?_
 refine wp_loop_rounds 40 ?_
 refine rounds_k (fun K10 hK10 => ?_)
 refine wp_seq_k (fun K11 hK11 => ?_)
 refine wp_region_lit ?_
 refine wpList_plain rfl (fun Ko hKo => ?_)
 go_simp
 refine hKo _ _ ?_
 clear hKo Ko
 try simp only [Act.put, nm1, nm2, nm3, i64_w]
 refine wpList_nil ?_
 (try simp only [Exit.then, Exit.inBlock, ↓reduceIte, Nat.reduceEqDiff])
 refine hK11 _ _ ?_
 refine wp_seq_k (fun K12 hK12 => ?_)
 refine wp_cond_true rfl ?_
 refine wp_skip ?_
 (try simp only [Exit.then, Exit.inBlock, ↓reduceIte, Nat.reduceEqDiff])
 refine hK12 _ _ ?_
 refine wp_seq_k (fun K13 hK13 => ?_)
 refine wp_block ?_
 refine wp_seq_k (fun K14 hK14 => ?_)
 refine wp_region_lit ?_
 refine wpList_plain rfl (fun Ko hKo => ?_)
 go_simp
 refine hKo _ _ ?_
 clear hKo Ko
 try simp only [Act.put, nm1, nm2, nm3, i64_w]
 have cl0 := hb7.cell (o := 0) rfl
 have cl1 := hb7.cell (o := 1) rfl
 refine wpList_plain rfl (fun Ko hKo => ?_)
 go_simp
 refine hKo _ _ ?_
 clear hKo Ko
 clear cl0 cl1
 try simp only [Act.put, nm1, nm2, nm3, i64_w]
 refine step_new (cs := [.int .i64 0, .int .i64 0]) (T := 26) (f := fun b => .pointer (some ⟨b, 0, none⟩)) rfl (by first | (go_simp; done) | (go_simp; rfl)) ?_
 intro b15 w16 hu lb hb15
 simp only [Act.put, nm1, nm2, nm3, i64_w]
 have lbb15 := Aside0.mk lb
 have ltb15 := Aside0.mk hb15.lt
 clear lb
 have hu17 := Aside0.mk hu
 clear hu
 have hB0 := hb15
 have cl0 := hB0.cell (o := 0) rfl
 have fr0 := hB0.free 0
 have cl1 := hB0.cell (o := 1) rfl
 have fr1 := hB0.free 1
 refine step_store (b := b15) (cs' := [.int .i64 1, .int .i64 0]) (T := 26) (W' := ((w16.setCell ⟨b15, 0, none⟩ (.int .i64 1)).setCell ⟨b15, 1, none⟩ (.int .i64 0))) rfl rfl (by first | (go_simp; done) | (go_simp; rfl)) (((Sto.refl _ _).setCell 0 _).setCell 1 _) (((hB0).setCell 0 _).setCell 1 _) ?_
 clear hB0 cl0 fr0 cl1 fr1
 intro w18 hs hb20
 have hs19 := Aside0.mk hs
 clear hs
 refine wpList_nil ?_
 (try simp only [Exit.then, Exit.inBlock, ↓reduceIte, Nat.reduceEqDiff])
 refine hK14 _ _ ?_
 refine wp_seq_k (fun K21 hK21 => ?_)
 refine wp_region_lit ?_
 refine wpList_plain rfl (fun Ko hKo => ?_)
 go_simp
 refine hKo _ _ ?_
 clear hKo Ko
 try simp only [Act.put, nm1, nm2, nm3, i64_w]
 have cl0 := (hb2.up ((hu9.out.trans hu17.out).sto (Nat.le_trans (hu9.out.size) lbb15.out) hs19.out)).cell (o := 0) rfl
 have cl1 := (hb2.up ((hu9.out.trans hu17.out).sto (Nat.le_trans (hu9.out.size) lbb15.out) hs19.out)).cell (o := 1) rfl
 have cl2 := (hb2.up ((hu9.out.trans hu17.out).sto (Nat.le_trans (hu9.out.size) lbb15.out) hs19.out)).cell (o := 2) rfl
 have cl3 := (hb2.up ((hu9.out.trans hu17.out).sto (Nat.le_trans (hu9.out.size) lbb15.out) hs19.out)).cell (o := 3) rfl
 refine wpList_plain rfl (fun Ko hKo => ?_)
 go_simp
 refine hKo _ _ ?_
 clear hKo Ko
 clear cl0 cl1 cl2 cl3
 try simp only [Act.put, nm1, nm2, nm3, i64_w]
 have cl0 := hb20.cell (o := 0) rfl
 have cl1 := hb20.cell (o := 1) rfl
 refine wpList_plain rfl (fun Ko hKo => ?_)
 go_simp
 refine hKo _ _ ?_
 clear hKo Ko
 clear cl0 cl1
 try simp only [Act.put, nm1, nm2, nm3, i64_w]
 refine step_call (wanted_none rfl) (by first | (go_simp; done) | (go_simp; rfl)) (impl_turned.calls K a0 a2_0 a2_1 a2_2 a2_3 1 0 t22 t23 w18  A24.out) ?_
 rintro e w25 ⟨rfl, hu⟩
 have hu26 := Aside0.mk hu
 clear hu
 refine ⟨_, rfl, ?_⟩
 simp only [Act.put, nm1, nm2, nm3, i64_w]
 refine step_new (cs := [.int .i64 0, .int .i64 0]) (T := 26) (f := fun b => .pointer (some ⟨b, 0, none⟩)) rfl (by first | (go_simp; done) | (go_simp; rfl)) ?_
 intro b27 w28 hu lb hb27
 simp only [Act.put, nm1, nm2, nm3, i64_w]
 have lbb27 := Aside0.mk lb
 have ltb27 := Aside0.mk hb27.lt
 clear lb
 have hu29 := Aside0.mk hu
 clear hu
 have hB0 := hb27
 have cl0 := hB0.cell (o := 0) rfl
 have fr0 := hB0.free 0
 have cl1 := hB0.cell (o := 1) rfl
 have fr1 := hB0.free 1
 refine step_store (b := b27) (cs' := [.int .i64 t22, .int .i64 t23]) (T := 26) (W' := ((w28.setCell ⟨b27, 0, none⟩ (.int .i64 t22)).setCell ⟨b27, 1, none⟩ (.int .i64 t23))) rfl rfl (by first | (go_simp; done) | (go_simp; rfl)) (((Sto.refl _ _).setCell 0 _).setCell 1 _) (((hB0).setCell 0 _).setCell 1 _) ?_
 clear hB0 cl0 fr0 cl1 fr1
 intro w30 hs hb32
 have hs31 := Aside0.mk hs
 clear hs
 refine wpList_nil ?_
 (try simp only [Exit.then, Exit.inBlock, ↓reduceIte, Nat.reduceEqDiff])
 refine hK21 _ _ ?_
 refine wp_seq_k (fun K33 hK33 => ?_)
 refine' wp_region_up 11 [Slot.det _, Slot.det _, Slot.det _, Slot.det _, Slot.det (.int .i64 t34), Slot.det _, Slot.det _, Slot.det _, Slot.det _, Slot.det (.int .i64 t36), Slot.det _] (by kernel_rfl) (by kernel_rfl) ?main
 case main =>
  simp only [List.take_succ_cons, List.take_zero]
  refine wpK_ops rfl (fun w1 hu => ?_) ?_
  · clear hu
    go_simp
    first | done | rfl
  simp only [Act.put, nm1, nm2, nm3, i64_w]
  refine wpK_ops rfl (fun w1 hu => ?_) ?_
  · clear hu
    go_simp
    first | done | rfl
  simp only [Act.put, nm1, nm2, nm3, i64_w]
  refine wpK_ops rfl (fun w1 hu => ?_) ?_
  · have cl0 := ((hb20.up ((hu26.out.trans hu29.out).sto (Nat.le_trans (hu26.out.size) lbb27.out) hs31.out)).up ((Up.refl _).drew.trans hu)).cell (o := 0) rfl
    have cl1 := ((hb20.up ((hu26.out.trans hu29.out).sto (Nat.le_trans (hu26.out.size) lbb27.out) hs31.out)).up ((Up.refl _).drew.trans hu)).cell (o := 1) rfl
    go_simp
    first | done | rfl
  simp only [Act.put, nm1, nm2, nm3, i64_w]
  refine wpK_ops rfl (fun w1 hu => ?_) ?_
  · have cl0 := ((hb20.up ((hu26.out.trans hu29.out).sto (Nat.le_trans (hu26.out.size) lbb27.out) hs31.out)).up ((Up.refl _).drew.trans hu)).cell (o := 0) rfl
    have cl1 := ((hb20.up ((hu26.out.trans hu29.out).sto (Nat.le_trans (hu26.out.size) lbb27.out) hs31.out)).up ((Up.refl _).drew.trans hu)).cell (o := 1) rfl
    go_simp
    first | done | rfl
  simp only [Act.put, nm1, nm2, nm3, i64_w]
  refine wpK_ops rfl (fun w1 hu => ?_) ?_
  · have hcl := (impl_product.calls K a0 a1 1 0 1 0 t34 w1  A35.out)
    clear hu
    replace hcl := Aside0.mk hcl
    go_simp
    exact hcl.out
  simp only [Act.put, nm1, nm2, nm3, i64_w]
  refine wpK_ops rfl (fun w1 hu => ?_) ?_
  · clear hu
    go_simp
    first | done | rfl
  simp only [Act.put, nm1, nm2, nm3, i64_w]
  refine wpK_ops rfl (fun w1 hu => ?_) ?_
  · clear hu
    go_simp
    first | done | rfl
  simp only [Act.put, nm1, nm2, nm3, i64_w]
  refine wpK_ops rfl (fun w1 hu => ?_) ?_
  · have cl0 := (hb32.up ((Up.refl _).drew.trans hu)).cell (o := 0) rfl
    have cl1 := (hb32.up ((Up.refl _).drew.trans hu)).cell (o := 1) rfl
    go_simp
    first | done | rfl
  simp only [Act.put, nm1, nm2, nm3, i64_w]
  refine wpK_ops rfl (fun w1 hu => ?_) ?_
  · have cl0 := (hb32.up ((Up.refl _).drew.trans hu)).cell (o := 0) rfl
    have cl1 := (hb32.up ((Up.refl _).drew.trans hu)).cell (o := 1) rfl
    go_simp
    first | done | rfl
  simp only [Act.put, nm1, nm2, nm3, i64_w]
  refine wpK_ops rfl (fun w1 hu => ?_) ?_
  · have hcl := (impl_product.calls K a0 a1 t22 t23 t22 t23 t36 w1  A37.out)
    clear hu
    replace hcl := Aside0.mk hcl
    go_simp
    exact hcl.out
  simp only [Act.put, nm1, nm2, nm3, i64_w]
  refine wpK_ops rfl (fun w1 hu => ?_) ?_
  · clear hu
    go_simp
    first | done | rfl
  simp only [Act.put, nm1, nm2, nm3, i64_w]
  refine wpK_nil ?_
  intro w38 hu hap
  simp only [List.drop_succ_cons, List.drop_zero]
  replace hu := (Up.refl _).drew.trans hu
  clear hap
  have hu39 := Aside0.mk hu
  clear hu
  refine wpList_nil ?_
  (try simp only [Exit.then, Exit.inBlock, ↓reduceIte, Nat.reduceEqDiff])
  refine hK33 _ _ ?_
  have hm41 := Aside0.mk (((((((hu4.out.trans hu9.out).trans hu17.out).sto (Nat.le_trans ((Nat.le_trans (hu4.out.size) hu9.out.size)) lbb15.out) hs19.out).trans hu26.out).trans hu29.out).sto (Nat.le_trans ((Nat.le_trans ((Nat.le_trans ((Nat.le_trans ((Nat.le_trans (hu4.out.size) hu9.out.size)) hu17.out.size)) (Nat.le_of_eq hs19.out.size.symm))) hu26.out.size)) lbb27.out) hs31.out).trans hu39.out)
  have hm42 := Aside0.mk (Nat.le_trans ((Nat.le_trans ((Nat.le_trans ((Nat.le_trans ((Nat.le_trans ((Nat.le_trans ((Nat.le_trans (hu4.out.size) hu9.out.size)) hu17.out.size)) (Nat.le_of_eq hs19.out.size.symm))) hu26.out.size)) hu29.out.size)) (Nat.le_of_eq hs31.out.size.symm))) hu39.out.size)
  have h43 := (hb2.up ((((((hu9.out.trans hu17.out).sto (Nat.le_trans (hu9.out.size) lbb15.out) hs19.out).trans hu26.out).trans hu29.out).sto (Nat.le_trans ((Nat.le_trans ((Nat.le_trans ((Nat.le_trans (hu9.out.size) hu17.out.size)) (Nat.le_of_eq hs19.out.size.symm))) hu26.out.size)) lbb27.out) hs31.out).trans hu39.out))
  have h44 := (hb7.up (((((hu17.out.sto (Nat.le_trans (Nat.le_refl _) lbb15.out) hs19.out).trans hu26.out).trans hu29.out).sto (Nat.le_trans ((Nat.le_trans ((Nat.le_trans (hu17.out.size) (Nat.le_of_eq hs19.out.size.symm))) hu26.out.size)) lbb27.out) hs31.out).trans hu39.out))
  have h45 := (hb20.up (((hu26.out.trans hu29.out).sto (Nat.le_trans (hu26.out.size) lbb27.out) hs31.out).trans hu39.out))
  by_cases c40 : (t34 == t36) = true
  ·
   rw [if_pos c40] at H
   have c40n : (t34 != t36) = false := by rw [bne, c40]; rfl
   replace H := Option.bind_eq_some_iff.mp H
   obtain ⟨⟨t58, t59⟩, A60, H⟩ := H
   replace A60 := Aside0.mk A60
   try dsimp only at H
   replace H := Option.bind_eq_some_iff.mp H
   obtain ⟨t70, A71, H⟩ := H
   replace A71 := Aside0.mk A71
   try dsimp only at H
   replace H := Option.bind_eq_some_iff.mp H
   obtain ⟨t72, A73, H⟩ := H
   replace A73 := Aside0.mk A73
   try dsimp only at H
   try simp only [c40, c40n, Bool.not_true, Bool.not_false]
   refine wp_cond_false rfl ?_
   refine wp_skip ?_
   (try simp only [Exit.then, Exit.inBlock, ↓reduceIte, Nat.reduceEqDiff])
   refine hK13 _ _ ?_
   refine wp_region_lit ?_
   refine wpList_plain rfl (fun Ko hKo => ?_)
   go_simp
   refine hKo _ _ ?_
   clear hKo Ko
   try simp only [Act.put, nm1, nm2, nm3, i64_w]
   try simp only [show wrap64 1 = 1 from wlit rfl]
   refine wpList_plain rfl (fun Ko hKo => ?_)
   go_simp
   refine hKo _ _ ?_
   clear hKo Ko
   try simp only [Act.put, nm1, nm2, nm3, i64_w]
   refine wpList_nil ?_
   (try simp only [Exit.then, Exit.inBlock, ↓reduceIte, Nat.reduceEqDiff])
   refine hK10 _ _ ?_
   refine rounds_k (fun K46 hK46 => ?_)
   refine wp_seq_k (fun K47 hK47 => ?_)
   refine wp_region_lit ?_
   refine wpList_plain rfl (fun Ko hKo => ?_)
   go_simp
   refine hKo _ _ ?_
   clear hKo Ko
   try simp only [Act.put, nm1, nm2, nm3, i64_w]
   refine wpList_nil ?_
   (try simp only [Exit.then, Exit.inBlock, ↓reduceIte, Nat.reduceEqDiff])
   refine hK47 _ _ ?_
   refine wp_seq_k (fun K48 hK48 => ?_)
   refine wp_cond_true rfl ?_
   refine wp_skip ?_
   (try simp only [Exit.then, Exit.inBlock, ↓reduceIte, Nat.reduceEqDiff])
   refine hK48 _ _ ?_
   refine wp_seq_k (fun K49 hK49 => ?_)
   refine wp_block ?_
   refine wp_seq_k (fun K50 hK50 => ?_)
   refine wp_region_lit ?_
   refine wpList_plain rfl (fun Ko hKo => ?_)
   go_simp
   refine hKo _ _ ?_
   clear hKo Ko
   try simp only [Act.put, nm1, nm2, nm3, i64_w]
   have cl0 := h44.cell (o := 2) rfl
   have cl1 := h44.cell (o := 3) rfl
   refine wpList_plain rfl (fun Ko hKo => ?_)
   go_simp
   refine hKo _ _ ?_
   clear hKo Ko
   clear cl0 cl1
   try simp only [Act.put, nm1, nm2, nm3, i64_w]
   refine step_new (cs := [.int .i64 0, .int .i64 0]) (T := 26) (f := fun b => .pointer (some ⟨b, 0, none⟩)) rfl (by first | (go_simp; done) | (go_simp; rfl)) ?_
   intro b51 w52 hu lb hb51
   simp only [Act.put, nm1, nm2, nm3, i64_w]
   have lbb51 := Aside0.mk lb
   have ltb51 := Aside0.mk hb51.lt
   clear lb
   have hu53 := Aside0.mk hu
   clear hu
   have hB0 := hb51
   have cl0 := hB0.cell (o := 0) rfl
   have fr0 := hB0.free 0
   have cl1 := hB0.cell (o := 1) rfl
   have fr1 := hB0.free 1
   refine step_store (b := b51) (cs' := [.int .i64 0, .int .i64 1]) (T := 26) (W' := ((w52.setCell ⟨b51, 0, none⟩ (.int .i64 0)).setCell ⟨b51, 1, none⟩ (.int .i64 1))) rfl rfl (by first | (go_simp; done) | (go_simp; rfl)) (((Sto.refl _ _).setCell 0 _).setCell 1 _) (((hB0).setCell 0 _).setCell 1 _) ?_
   clear hB0 cl0 fr0 cl1 fr1
   intro w54 hs hb56
   have hs55 := Aside0.mk hs
   clear hs
   refine wpList_nil ?_
   (try simp only [Exit.then, Exit.inBlock, ↓reduceIte, Nat.reduceEqDiff])
   refine hK50 _ _ ?_
   refine wp_seq_k (fun K57 hK57 => ?_)
   refine wp_region_lit ?_
   refine wpList_plain rfl (fun Ko hKo => ?_)
   go_simp
   refine hKo _ _ ?_
   clear hKo Ko
   try simp only [Act.put, nm1, nm2, nm3, i64_w]
   have cl0 := (h43.up (hu53.out.sto (Nat.le_trans (Nat.le_refl _) lbb51.out) hs55.out)).cell (o := 0) rfl
   have cl1 := (h43.up (hu53.out.sto (Nat.le_trans (Nat.le_refl _) lbb51.out) hs55.out)).cell (o := 1) rfl
   have cl2 := (h43.up (hu53.out.sto (Nat.le_trans (Nat.le_refl _) lbb51.out) hs55.out)).cell (o := 2) rfl
   have cl3 := (h43.up (hu53.out.sto (Nat.le_trans (Nat.le_refl _) lbb51.out) hs55.out)).cell (o := 3) rfl
   refine wpList_plain rfl (fun Ko hKo => ?_)
   go_simp
   refine hKo _ _ ?_
   clear hKo Ko
   clear cl0 cl1 cl2 cl3
   try simp only [Act.put, nm1, nm2, nm3, i64_w]
   have cl0 := hb56.cell (o := 0) rfl
   have cl1 := hb56.cell (o := 1) rfl
   refine wpList_plain rfl (fun Ko hKo => ?_)
   go_simp
   refine hKo _ _ ?_
   clear hKo Ko
   clear cl0 cl1
   try simp only [Act.put, nm1, nm2, nm3, i64_w]
   refine step_call (wanted_none rfl) (by first | (go_simp; done) | (go_simp; rfl)) (impl_turned.calls K a0 a2_0 a2_1 a2_2 a2_3 0 1 t58 t59 w54  A60.out) ?_
   rintro e w61 ⟨rfl, hu⟩
   have hu62 := Aside0.mk hu
   clear hu
   refine ⟨_, rfl, ?_⟩
   simp only [Act.put, nm1, nm2, nm3, i64_w]
   refine step_new (cs := [.int .i64 0, .int .i64 0]) (T := 26) (f := fun b => .pointer (some ⟨b, 0, none⟩)) rfl (by first | (go_simp; done) | (go_simp; rfl)) ?_
   intro b63 w64 hu lb hb63
   simp only [Act.put, nm1, nm2, nm3, i64_w]
   have lbb63 := Aside0.mk lb
   have ltb63 := Aside0.mk hb63.lt
   clear lb
   have hu65 := Aside0.mk hu
   clear hu
   have hB0 := hb63
   have cl0 := hB0.cell (o := 0) rfl
   have fr0 := hB0.free 0
   have cl1 := hB0.cell (o := 1) rfl
   have fr1 := hB0.free 1
   refine step_store (b := b63) (cs' := [.int .i64 t58, .int .i64 t59]) (T := 26) (W' := ((w64.setCell ⟨b63, 0, none⟩ (.int .i64 t58)).setCell ⟨b63, 1, none⟩ (.int .i64 t59))) rfl rfl (by first | (go_simp; done) | (go_simp; rfl)) (((Sto.refl _ _).setCell 0 _).setCell 1 _) (((hB0).setCell 0 _).setCell 1 _) ?_
   clear hB0 cl0 fr0 cl1 fr1
   intro w66 hs hb68
   have hs67 := Aside0.mk hs
   clear hs
   refine wpList_nil ?_
   (try simp only [Exit.then, Exit.inBlock, ↓reduceIte, Nat.reduceEqDiff])
   refine hK57 _ _ ?_
   refine wp_seq_k (fun K69 hK69 => ?_)
   refine' wp_region_up 11 [Slot.det _, Slot.det _, Slot.det _, Slot.det _, Slot.det (.int .i64 t70), Slot.det _, Slot.det _, Slot.det _, Slot.det _, Slot.det (.int .i64 t72), Slot.det _] (by kernel_rfl) (by kernel_rfl) ?main
   case main =>
    simp only [List.take_succ_cons, List.take_zero]
    refine wpK_ops rfl (fun w1 hu => ?_) ?_
    · clear hu
      go_simp
      first | done | rfl
    simp only [Act.put, nm1, nm2, nm3, i64_w]
    refine wpK_ops rfl (fun w1 hu => ?_) ?_
    · clear hu
      go_simp
      first | done | rfl
    simp only [Act.put, nm1, nm2, nm3, i64_w]
    refine wpK_ops rfl (fun w1 hu => ?_) ?_
    · have cl0 := ((hb56.up ((hu62.out.trans hu65.out).sto (Nat.le_trans (hu62.out.size) lbb63.out) hs67.out)).up ((Up.refl _).drew.trans hu)).cell (o := 0) rfl
      have cl1 := ((hb56.up ((hu62.out.trans hu65.out).sto (Nat.le_trans (hu62.out.size) lbb63.out) hs67.out)).up ((Up.refl _).drew.trans hu)).cell (o := 1) rfl
      go_simp
      first | done | rfl
    simp only [Act.put, nm1, nm2, nm3, i64_w]
    refine wpK_ops rfl (fun w1 hu => ?_) ?_
    · have cl0 := ((hb56.up ((hu62.out.trans hu65.out).sto (Nat.le_trans (hu62.out.size) lbb63.out) hs67.out)).up ((Up.refl _).drew.trans hu)).cell (o := 0) rfl
      have cl1 := ((hb56.up ((hu62.out.trans hu65.out).sto (Nat.le_trans (hu62.out.size) lbb63.out) hs67.out)).up ((Up.refl _).drew.trans hu)).cell (o := 1) rfl
      go_simp
      first | done | rfl
    simp only [Act.put, nm1, nm2, nm3, i64_w]
    refine wpK_ops rfl (fun w1 hu => ?_) ?_
    · have hcl := (impl_product.calls K a0 a1 0 1 0 1 t70 w1  A71.out)
      clear hu
      replace hcl := Aside0.mk hcl
      go_simp
      exact hcl.out
    simp only [Act.put, nm1, nm2, nm3, i64_w]
    refine wpK_ops rfl (fun w1 hu => ?_) ?_
    · clear hu
      go_simp
      first | done | rfl
    simp only [Act.put, nm1, nm2, nm3, i64_w]
    refine wpK_ops rfl (fun w1 hu => ?_) ?_
    · clear hu
      go_simp
      first | done | rfl
    simp only [Act.put, nm1, nm2, nm3, i64_w]
    refine wpK_ops rfl (fun w1 hu => ?_) ?_
    · have cl0 := (hb68.up ((Up.refl _).drew.trans hu)).cell (o := 0) rfl
      have cl1 := (hb68.up ((Up.refl _).drew.trans hu)).cell (o := 1) rfl
      go_simp
      first | done | rfl
    simp only [Act.put, nm1, nm2, nm3, i64_w]
    refine wpK_ops rfl (fun w1 hu => ?_) ?_
    · have cl0 := (hb68.up ((Up.refl _).drew.trans hu)).cell (o := 0) rfl
      have cl1 := (hb68.up ((Up.refl _).drew.trans hu)).cell (o := 1) rfl
      go_simp
      first | done | rfl
    simp only [Act.put, nm1, nm2, nm3, i64_w]
    refine wpK_ops rfl (fun w1 hu => ?_) ?_
    · have hcl := (impl_product.calls K a0 a1 t58 t59 t58 t59 t72 w1  A73.out)
      clear hu
      replace hcl := Aside0.mk hcl
      go_simp
      exact hcl.out
    simp only [Act.put, nm1, nm2, nm3, i64_w]
    refine wpK_ops rfl (fun w1 hu => ?_) ?_
    · clear hu
      go_simp
      first | done | rfl
    simp only [Act.put, nm1, nm2, nm3, i64_w]
    refine wpK_nil ?_
    intro w74 hu hap
    simp only [List.drop_succ_cons, List.drop_zero]
    replace hu := (Up.refl _).drew.trans hu
    clear hap
    have hu75 := Aside0.mk hu
    clear hu
    refine wpList_nil ?_
    (try simp only [Exit.then, Exit.inBlock, ↓reduceIte, Nat.reduceEqDiff])
    refine hK69 _ _ ?_
    have hm77 := Aside0.mk ((((((hm41.out.trans hu53.out).sto (Nat.le_trans (hm42.out) lbb51.out) hs55.out).trans hu62.out).trans hu65.out).sto (Nat.le_trans ((Nat.le_trans ((Nat.le_trans ((Nat.le_trans (hm42.out) hu53.out.size)) (Nat.le_of_eq hs55.out.size.symm))) hu62.out.size)) lbb63.out) hs67.out).trans hu75.out)
    have hm78 := Aside0.mk (Nat.le_trans ((Nat.le_trans ((Nat.le_trans ((Nat.le_trans ((Nat.le_trans ((Nat.le_trans (hm42.out) hu53.out.size)) (Nat.le_of_eq hs55.out.size.symm))) hu62.out.size)) hu65.out.size)) (Nat.le_of_eq hs67.out.size.symm))) hu75.out.size)
    have h79 := (h43.up (((((hu53.out.sto (Nat.le_trans (Nat.le_refl _) lbb51.out) hs55.out).trans hu62.out).trans hu65.out).sto (Nat.le_trans ((Nat.le_trans ((Nat.le_trans (hu53.out.size) (Nat.le_of_eq hs55.out.size.symm))) hu62.out.size)) lbb63.out) hs67.out).trans hu75.out))
    have h80 := (h44.up (((((hu53.out.sto (Nat.le_trans (Nat.le_refl _) lbb51.out) hs55.out).trans hu62.out).trans hu65.out).sto (Nat.le_trans ((Nat.le_trans ((Nat.le_trans (hu53.out.size) (Nat.le_of_eq hs55.out.size.symm))) hu62.out.size)) lbb63.out) hs67.out).trans hu75.out))
    have h81 := (h45.up (((((hu53.out.sto (Nat.le_trans (Nat.le_refl _) lbb51.out) hs55.out).trans hu62.out).trans hu65.out).sto (Nat.le_trans ((Nat.le_trans ((Nat.le_trans (hu53.out.size) (Nat.le_of_eq hs55.out.size.symm))) hu62.out.size)) lbb63.out) hs67.out).trans hu75.out))
    have h82 := (hb32.up ((((((hu39.out.trans hu53.out).sto (Nat.le_trans (hu39.out.size) lbb51.out) hs55.out).trans hu62.out).trans hu65.out).sto (Nat.le_trans ((Nat.le_trans ((Nat.le_trans ((Nat.le_trans (hu39.out.size) hu53.out.size)) (Nat.le_of_eq hs55.out.size.symm))) hu62.out.size)) lbb63.out) hs67.out).trans hu75.out))
    have h83 := (hb56.up (((hu62.out.trans hu65.out).sto (Nat.le_trans (hu62.out.size) lbb63.out) hs67.out).trans hu75.out))
    by_cases c76 : (t70 == t72) = true
    ·
     rw [if_pos c76] at H
     have c76n : (t70 != t72) = false := by rw [bne, c76]; rfl
     replace H := Option.bind_eq_some_iff.mp H
     obtain ⟨⟨t96, t97⟩, A98, H⟩ := H
     replace A98 := Aside0.mk A98
     try dsimp only at H
     replace H := Option.bind_eq_some_iff.mp H
     obtain ⟨t108, A109, H⟩ := H
     replace A109 := Aside0.mk A109
     try dsimp only at H
     replace H := Option.bind_eq_some_iff.mp H
     obtain ⟨t110, A111, H⟩ := H
     replace A111 := Aside0.mk A111
     try dsimp only at H
     try simp only [c76, c76n, Bool.not_true, Bool.not_false]
     refine wp_cond_false rfl ?_
     refine wp_skip ?_
     (try simp only [Exit.then, Exit.inBlock, ↓reduceIte, Nat.reduceEqDiff])
     refine hK49 _ _ ?_
     refine wp_region_lit ?_
     refine wpList_plain rfl (fun Ko hKo => ?_)
     go_simp
     refine hKo _ _ ?_
     clear hKo Ko
     try simp only [Act.put, nm1, nm2, nm3, i64_w]
     try simp only [show wrap64 2 = 2 from wlit rfl]
     refine wpList_plain rfl (fun Ko hKo => ?_)
     go_simp
     refine hKo _ _ ?_
     clear hKo Ko
     try simp only [Act.put, nm1, nm2, nm3, i64_w]
     refine wpList_nil ?_
     (try simp only [Exit.then, Exit.inBlock, ↓reduceIte, Nat.reduceEqDiff])
     refine hK46 _ _ ?_
     refine rounds_k (fun K84 hK84 => ?_)
     refine wp_seq_k (fun K85 hK85 => ?_)
     refine wp_region_lit ?_
     refine wpList_plain rfl (fun Ko hKo => ?_)
     go_simp
     refine hKo _ _ ?_
     clear hKo Ko
     try simp only [Act.put, nm1, nm2, nm3, i64_w]
     refine wpList_nil ?_
     (try simp only [Exit.then, Exit.inBlock, ↓reduceIte, Nat.reduceEqDiff])
     refine hK85 _ _ ?_
     refine wp_seq_k (fun K86 hK86 => ?_)
     refine wp_cond_true rfl ?_
     refine wp_skip ?_
     (try simp only [Exit.then, Exit.inBlock, ↓reduceIte, Nat.reduceEqDiff])
     refine hK86 _ _ ?_
     refine wp_seq_k (fun K87 hK87 => ?_)
     refine wp_block ?_
     refine wp_seq_k (fun K88 hK88 => ?_)
     refine wp_region_lit ?_
     refine wpList_plain rfl (fun Ko hKo => ?_)
     go_simp
     refine hKo _ _ ?_
     clear hKo Ko
     try simp only [Act.put, nm1, nm2, nm3, i64_w]
     have cl0 := h80.cell (o := 4) rfl
     have cl1 := h80.cell (o := 5) rfl
     refine wpList_plain rfl (fun Ko hKo => ?_)
     go_simp
     refine hKo _ _ ?_
     clear hKo Ko
     clear cl0 cl1
     try simp only [Act.put, nm1, nm2, nm3, i64_w]
     refine step_new (cs := [.int .i64 0, .int .i64 0]) (T := 26) (f := fun b => .pointer (some ⟨b, 0, none⟩)) rfl (by first | (go_simp; done) | (go_simp; rfl)) ?_
     intro b89 w90 hu lb hb89
     simp only [Act.put, nm1, nm2, nm3, i64_w]
     have lbb89 := Aside0.mk lb
     have ltb89 := Aside0.mk hb89.lt
     clear lb
     have hu91 := Aside0.mk hu
     clear hu
     have hB0 := hb89
     have cl0 := hB0.cell (o := 0) rfl
     have fr0 := hB0.free 0
     have cl1 := hB0.cell (o := 1) rfl
     have fr1 := hB0.free 1
     refine step_store (b := b89) (cs' := [.int .i64 1, .int .i64 1]) (T := 26) (W' := ((w90.setCell ⟨b89, 0, none⟩ (.int .i64 1)).setCell ⟨b89, 1, none⟩ (.int .i64 1))) rfl rfl (by first | (go_simp; done) | (go_simp; rfl)) (((Sto.refl _ _).setCell 0 _).setCell 1 _) (((hB0).setCell 0 _).setCell 1 _) ?_
     clear hB0 cl0 fr0 cl1 fr1
     intro w92 hs hb94
     have hs93 := Aside0.mk hs
     clear hs
     refine wpList_nil ?_
     (try simp only [Exit.then, Exit.inBlock, ↓reduceIte, Nat.reduceEqDiff])
     refine hK88 _ _ ?_
     refine wp_seq_k (fun K95 hK95 => ?_)
     refine wp_region_lit ?_
     refine wpList_plain rfl (fun Ko hKo => ?_)
     go_simp
     refine hKo _ _ ?_
     clear hKo Ko
     try simp only [Act.put, nm1, nm2, nm3, i64_w]
     have cl0 := (h79.up (hu91.out.sto (Nat.le_trans (Nat.le_refl _) lbb89.out) hs93.out)).cell (o := 0) rfl
     have cl1 := (h79.up (hu91.out.sto (Nat.le_trans (Nat.le_refl _) lbb89.out) hs93.out)).cell (o := 1) rfl
     have cl2 := (h79.up (hu91.out.sto (Nat.le_trans (Nat.le_refl _) lbb89.out) hs93.out)).cell (o := 2) rfl
     have cl3 := (h79.up (hu91.out.sto (Nat.le_trans (Nat.le_refl _) lbb89.out) hs93.out)).cell (o := 3) rfl
     refine wpList_plain rfl (fun Ko hKo => ?_)
     go_simp
     refine hKo _ _ ?_
     clear hKo Ko
     clear cl0 cl1 cl2 cl3
     try simp only [Act.put, nm1, nm2, nm3, i64_w]
     have cl0 := hb94.cell (o := 0) rfl
     have cl1 := hb94.cell (o := 1) rfl
     refine wpList_plain rfl (fun Ko hKo => ?_)
     go_simp
     refine hKo _ _ ?_
     clear hKo Ko
     clear cl0 cl1
     try simp only [Act.put, nm1, nm2, nm3, i64_w]
     refine step_call (wanted_none rfl) (by first | (go_simp; done) | (go_simp; rfl)) (impl_turned.calls K a0 a2_0 a2_1 a2_2 a2_3 1 1 t96 t97 w92  A98.out) ?_
     rintro e w99 ⟨rfl, hu⟩
     have hu100 := Aside0.mk hu
     clear hu
     refine ⟨_, rfl, ?_⟩
     simp only [Act.put, nm1, nm2, nm3, i64_w]
     refine step_new (cs := [.int .i64 0, .int .i64 0]) (T := 26) (f := fun b => .pointer (some ⟨b, 0, none⟩)) rfl (by first | (go_simp; done) | (go_simp; rfl)) ?_
     intro b101 w102 hu lb hb101
     simp only [Act.put, nm1, nm2, nm3, i64_w]
     have lbb101 := Aside0.mk lb
     have ltb101 := Aside0.mk hb101.lt
     clear lb
     have hu103 := Aside0.mk hu
     clear hu
     have hB0 := hb101
     have cl0 := hB0.cell (o := 0) rfl
     have fr0 := hB0.free 0
     have cl1 := hB0.cell (o := 1) rfl
     have fr1 := hB0.free 1
     refine step_store (b := b101) (cs' := [.int .i64 t96, .int .i64 t97]) (T := 26) (W' := ((w102.setCell ⟨b101, 0, none⟩ (.int .i64 t96)).setCell ⟨b101, 1, none⟩ (.int .i64 t97))) rfl rfl (by first | (go_simp; done) | (go_simp; rfl)) (((Sto.refl _ _).setCell 0 _).setCell 1 _) (((hB0).setCell 0 _).setCell 1 _) ?_
     clear hB0 cl0 fr0 cl1 fr1
     intro w104 hs hb106
     have hs105 := Aside0.mk hs
     clear hs
     refine wpList_nil ?_
     (try simp only [Exit.then, Exit.inBlock, ↓reduceIte, Nat.reduceEqDiff])
     refine hK95 _ _ ?_
     refine wp_seq_k (fun K107 hK107 => ?_)
     refine' wp_region_up 11 [Slot.det _, Slot.det _, Slot.det _, Slot.det _, Slot.det (.int .i64 t108), Slot.det _, Slot.det _, Slot.det _, Slot.det _, Slot.det (.int .i64 t110), Slot.det _] (by kernel_rfl) (by kernel_rfl) ?main
     case main =>
      simp only [List.take_succ_cons, List.take_zero]
      refine wpK_ops rfl (fun w1 hu => ?_) ?_
      · clear hu
        go_simp
        first | done | rfl
      simp only [Act.put, nm1, nm2, nm3, i64_w]
      refine wpK_ops rfl (fun w1 hu => ?_) ?_
      · clear hu
        go_simp
        first | done | rfl
      simp only [Act.put, nm1, nm2, nm3, i64_w]
      refine wpK_ops rfl (fun w1 hu => ?_) ?_
      · have cl0 := ((hb94.up ((hu100.out.trans hu103.out).sto (Nat.le_trans (hu100.out.size) lbb101.out) hs105.out)).up ((Up.refl _).drew.trans hu)).cell (o := 0) rfl
        have cl1 := ((hb94.up ((hu100.out.trans hu103.out).sto (Nat.le_trans (hu100.out.size) lbb101.out) hs105.out)).up ((Up.refl _).drew.trans hu)).cell (o := 1) rfl
        go_simp
        first | done | rfl
      simp only [Act.put, nm1, nm2, nm3, i64_w]
      refine wpK_ops rfl (fun w1 hu => ?_) ?_
      · have cl0 := ((hb94.up ((hu100.out.trans hu103.out).sto (Nat.le_trans (hu100.out.size) lbb101.out) hs105.out)).up ((Up.refl _).drew.trans hu)).cell (o := 0) rfl
        have cl1 := ((hb94.up ((hu100.out.trans hu103.out).sto (Nat.le_trans (hu100.out.size) lbb101.out) hs105.out)).up ((Up.refl _).drew.trans hu)).cell (o := 1) rfl
        go_simp
        first | done | rfl
      simp only [Act.put, nm1, nm2, nm3, i64_w]
      refine wpK_ops rfl (fun w1 hu => ?_) ?_
      · have hcl := (impl_product.calls K a0 a1 1 1 1 1 t108 w1  A109.out)
        clear hu
        replace hcl := Aside0.mk hcl
        go_simp
        exact hcl.out
      simp only [Act.put, nm1, nm2, nm3, i64_w]
      refine wpK_ops rfl (fun w1 hu => ?_) ?_
      · clear hu
        go_simp
        first | done | rfl
      simp only [Act.put, nm1, nm2, nm3, i64_w]
      refine wpK_ops rfl (fun w1 hu => ?_) ?_
      · clear hu
        go_simp
        first | done | rfl
      simp only [Act.put, nm1, nm2, nm3, i64_w]
      refine wpK_ops rfl (fun w1 hu => ?_) ?_
      · have cl0 := (hb106.up ((Up.refl _).drew.trans hu)).cell (o := 0) rfl
        have cl1 := (hb106.up ((Up.refl _).drew.trans hu)).cell (o := 1) rfl
        go_simp
        first | done | rfl
      simp only [Act.put, nm1, nm2, nm3, i64_w]
      refine wpK_ops rfl (fun w1 hu => ?_) ?_
      · have cl0 := (hb106.up ((Up.refl _).drew.trans hu)).cell (o := 0) rfl
        have cl1 := (hb106.up ((Up.refl _).drew.trans hu)).cell (o := 1) rfl
        go_simp
        first | done | rfl
      simp only [Act.put, nm1, nm2, nm3, i64_w]
      refine wpK_ops rfl (fun w1 hu => ?_) ?_
      · have hcl := (impl_product.calls K a0 a1 t96 t97 t96 t97 t110 w1  A111.out)
        clear hu
        replace hcl := Aside0.mk hcl
        go_simp
        exact hcl.out
      simp only [Act.put, nm1, nm2, nm3, i64_w]
      refine wpK_ops rfl (fun w1 hu => ?_) ?_
      · clear hu
        go_simp
        first | done | rfl
      simp only [Act.put, nm1, nm2, nm3, i64_w]
      refine wpK_nil ?_
      intro w112 hu hap
      simp only [List.drop_succ_cons, List.drop_zero]
      replace hu := (Up.refl _).drew.trans hu
      clear hap
      have hu113 := Aside0.mk hu
      clear hu
      refine wpList_nil ?_
      (try simp only [Exit.then, Exit.inBlock, ↓reduceIte, Nat.reduceEqDiff])
      refine hK107 _ _ ?_
      have hm115 := Aside0.mk ((((((hm77.out.trans hu91.out).sto (Nat.le_trans (hm78.out) lbb89.out) hs93.out).trans hu100.out).trans hu103.out).sto (Nat.le_trans ((Nat.le_trans ((Nat.le_trans ((Nat.le_trans (hm78.out) hu91.out.size)) (Nat.le_of_eq hs93.out.size.symm))) hu100.out.size)) lbb101.out) hs105.out).trans hu113.out)
      have hm116 := Aside0.mk (Nat.le_trans ((Nat.le_trans ((Nat.le_trans ((Nat.le_trans ((Nat.le_trans ((Nat.le_trans (hm78.out) hu91.out.size)) (Nat.le_of_eq hs93.out.size.symm))) hu100.out.size)) hu103.out.size)) (Nat.le_of_eq hs105.out.size.symm))) hu113.out.size)
      have h117 := (h79.up (((((hu91.out.sto (Nat.le_trans (Nat.le_refl _) lbb89.out) hs93.out).trans hu100.out).trans hu103.out).sto (Nat.le_trans ((Nat.le_trans ((Nat.le_trans (hu91.out.size) (Nat.le_of_eq hs93.out.size.symm))) hu100.out.size)) lbb101.out) hs105.out).trans hu113.out))
      have h118 := (h80.up (((((hu91.out.sto (Nat.le_trans (Nat.le_refl _) lbb89.out) hs93.out).trans hu100.out).trans hu103.out).sto (Nat.le_trans ((Nat.le_trans ((Nat.le_trans (hu91.out.size) (Nat.le_of_eq hs93.out.size.symm))) hu100.out.size)) lbb101.out) hs105.out).trans hu113.out))
      have h119 := (h81.up (((((hu91.out.sto (Nat.le_trans (Nat.le_refl _) lbb89.out) hs93.out).trans hu100.out).trans hu103.out).sto (Nat.le_trans ((Nat.le_trans ((Nat.le_trans (hu91.out.size) (Nat.le_of_eq hs93.out.size.symm))) hu100.out.size)) lbb101.out) hs105.out).trans hu113.out))
      have h120 := (h82.up (((((hu91.out.sto (Nat.le_trans (Nat.le_refl _) lbb89.out) hs93.out).trans hu100.out).trans hu103.out).sto (Nat.le_trans ((Nat.le_trans ((Nat.le_trans (hu91.out.size) (Nat.le_of_eq hs93.out.size.symm))) hu100.out.size)) lbb101.out) hs105.out).trans hu113.out))
      have h121 := (h83.up (((((hu91.out.sto (Nat.le_trans (Nat.le_refl _) lbb89.out) hs93.out).trans hu100.out).trans hu103.out).sto (Nat.le_trans ((Nat.le_trans ((Nat.le_trans (hu91.out.size) (Nat.le_of_eq hs93.out.size.symm))) hu100.out.size)) lbb101.out) hs105.out).trans hu113.out))
      have h122 := (hb68.up ((((((hu75.out.trans hu91.out).sto (Nat.le_trans (hu75.out.size) lbb89.out) hs93.out).trans hu100.out).trans hu103.out).sto (Nat.le_trans ((Nat.le_trans ((Nat.le_trans ((Nat.le_trans (hu75.out.size) hu91.out.size)) (Nat.le_of_eq hs93.out.size.symm))) hu100.out.size)) lbb101.out) hs105.out).trans hu113.out))
      have h123 := (hb94.up (((hu100.out.trans hu103.out).sto (Nat.le_trans (hu100.out.size) lbb101.out) hs105.out).trans hu113.out))
      by_cases c114 : (t108 == t110) = true
      ·
       rw [if_pos c114] at H
       have c114n : (t108 != t110) = false := by rw [bne, c114]; rfl
       obtain rfl := Option.some.inj H
       try simp only [c114, c114n, Bool.not_true, Bool.not_false]
       refine wp_cond_false rfl ?_
       refine wp_skip ?_
       (try simp only [Exit.then, Exit.inBlock, ↓reduceIte, Nat.reduceEqDiff])
       refine hK87 _ _ ?_
       refine wp_region_lit ?_
       refine wpList_plain rfl (fun Ko hKo => ?_)
       go_simp
       refine hKo _ _ ?_
       clear hKo Ko
       try simp only [Act.put, nm1, nm2, nm3, i64_w]
       try simp only [show wrap64 3 = 3 from wlit rfl]
       refine wpList_plain rfl (fun Ko hKo => ?_)
       go_simp
       refine hKo _ _ ?_
       clear hKo Ko
       try simp only [Act.put, nm1, nm2, nm3, i64_w]
       refine wpList_nil ?_
       (try simp only [Exit.then, Exit.inBlock, ↓reduceIte, Nat.reduceEqDiff])
       refine hK84 _ _ ?_
       refine rounds_k (fun K124 hK124 => ?_)
       refine wp_seq_k (fun K125 hK125 => ?_)
       refine wp_region_lit ?_
       refine wpList_plain rfl (fun Ko hKo => ?_)
       go_simp
       refine hKo _ _ ?_
       clear hKo Ko
       try simp only [Act.put, nm1, nm2, nm3, i64_w]
       refine wpList_nil ?_
       (try simp only [Exit.then, Exit.inBlock, ↓reduceIte, Nat.reduceEqDiff])
       refine hK125 _ _ ?_
       refine wp_seq_k (fun K126 hK126 => ?_)
       refine wp_cond_false rfl ?_
       refine wp_exit ?_
       (try simp only [Exit.then, Exit.inBlock, ↓reduceIte, Nat.reduceEqDiff])
       refine hK5 _ _ ?_
       refine wp_seq_k (fun K127 hK127 => ?_)
       refine wp_region_lit ?_
       refine wpList_plain rfl (fun Ko hKo => ?_)
       go_simp
       refine hKo _ _ ?_
       clear hKo Ko
       try simp only [Act.put, nm1, nm2, nm3, i64_w]
       refine wpList_nil ?_
       (try simp only [Exit.then, Exit.inBlock, ↓reduceIte, Nat.reduceEqDiff])
       refine hK127 _ _ ?_
       refine wp_ret ?_
       (try simp only [Exit.then, Exit.inBlock, ↓reduceIte, Nat.reduceEqDiff])
       refine hQf _ _ _ ?_
       exact bodyPost_ret (v := .bool true) (by first | rfl | (simp [results, Try.results57, go_sem]; done) | (simp [results, Try.results57, go_sem]; rfl)) rfl ⟨rfl, hm115.out⟩
      ·
       rw [if_neg c114] at H
       replace c114 := Bool.eq_false_iff.mpr c114
       have c114n : (t108 != t110) = true := by rw [bne, c114]; rfl
       have c114p : ¬ t108 = t110 := fun e => by simp [e] at c114
       obtain rfl := Option.some.inj H
       try simp only [c114, c114n, Bool.not_true, Bool.not_false]
       refine wp_cond_true rfl ?_
       refine wp_seq_k (fun K128 hK128 => ?_)
       refine wp_region_lit ?_
       refine wpList_plain rfl (fun Ko hKo => ?_)
       go_simp
       refine hKo _ _ ?_
       clear hKo Ko
       try simp only [Act.put, nm1, nm2, nm3, i64_w]
       refine wpList_nil ?_
       (try simp only [Exit.then, Exit.inBlock, ↓reduceIte, Nat.reduceEqDiff])
       refine hK128 _ _ ?_
       refine wp_ret ?_
       (try simp only [Exit.then, Exit.inBlock, ↓reduceIte, Nat.reduceEqDiff])
       refine hQf _ _ _ ?_
       exact bodyPost_ret (v := .bool false) (by first | rfl | (simp [results, Try.results57, go_sem]; done) | (simp [results, Try.results57, go_sem]; rfl)) rfl ⟨rfl, hm115.out⟩
    ·
     rw [if_neg c76] at H
     replace c76 := Bool.eq_false_iff.mpr c76
     have c76n : (t70 != t72) = true := by rw [bne, c76]; rfl
     have c76p : ¬ t70 = t72 := fun e => by simp [e] at c76
     obtain rfl := Option.some.inj H
     try simp only [c76, c76n, Bool.not_true, Bool.not_false]
     refine wp_cond_true rfl ?_
     refine wp_seq_k (fun K129 hK129 => ?_)
     refine wp_region_lit ?_
     refine wpList_plain rfl (fun Ko hKo => ?_)
     go_simp
     refine hKo _ _ ?_
     clear hKo Ko
     try simp only [Act.put, nm1, nm2, nm3, i64_w]
     refine wpList_nil ?_
     (try simp only [Exit.then, Exit.inBlock, ↓reduceIte, Nat.reduceEqDiff])
     refine hK129 _ _ ?_
     refine wp_ret ?_
     (try simp only [Exit.then, Exit.inBlock, ↓reduceIte, Nat.reduceEqDiff])
     refine hQf _ _ _ ?_
     exact bodyPost_ret (v := .bool false) (by first | rfl | (simp [results, Try.results57, go_sem]; done) | (simp [results, Try.results57, go_sem]; rfl)) rfl ⟨rfl, hm77.out⟩
  ·
   rw [if_neg c40] at H
   replace c40 := Bool.eq_false_iff.mpr c40
   have c40n : (t34 != t36) = true := by rw [bne, c40]; rfl
   have c40p : ¬ t34 = t36 := fun e => by simp [e] at c40
   obtain rfl := Option.some.inj H
   try simp only [c40, c40n, Bool.not_true, Bool.not_false]
   refine wp_cond_true rfl ?_
   refine wp_seq_k (fun K130 hK130 => ?_)
   refine wp_region_lit ?_
   refine wpList_plain rfl (fun Ko hKo => ?_)
   go_simp
   refine hKo _ _ ?_
   clear hKo Ko
   try simp only [Act.put, nm1, nm2, nm3, i64_w]
   refine wpList_nil ?_
   (try simp only [Exit.then, Exit.inBlock, ↓reduceIte, Nat.reduceEqDiff])
   refine hK130 _ _ ?_
   refine wp_ret ?_
   (try simp only [Exit.then, Exit.inBlock, ↓reduceIte, Nat.reduceEqDiff])
   refine hQf _ _ _ ?_
   exact bodyPost_ret (v := .bool false) (by first | rfl | (simp [results, Try.results57, go_sem]; done) | (simp [results, Try.results57, go_sem]; rfl)) rfl ⟨rfl, hm41.out⟩

set_option maxHeartbeats 40000000 in
set_option maxRecDepth 100000 in
theorem impl_keepers.calls (K : Nat) (a0 : Int) (a1 : Int) (r0 : List (Int × Int × Int × Int)) (w : World)  (h : impl_keepers.f K a0 a1 = some (r0)) :
    Calls Try.prog 132 #[.int .i64 a0, .int .i64 a1] w fun e w' => ∃ (Ar0 : Option Addr) (cr0 : Nat), e = .returned (.slice Ar0 r0.length cr0) ∧ Own e4 22 w' w.heap.size (.slice Ar0 r0.length cr0) r0 ∧ Up w w' := by
 have H : (((impl_product.f K a0 a1 1 0 1 0).bind fun t3 => ((impl_pointsAt.f K a0 a1 0 0 t3).bind fun t7 => ((impl_product.f K a0 a1 0 1 0 1).bind fun t14 => ((impl_pointsAt.f K a0 a1 0 0 t14).bind fun t18 => (impl_keepers.l0 K a0 a1 t7 t18 K 0 ([] : List (Int × Int × Int × Int))))))) : Option (List (Int × Int × Int × Int))) = some (r0) := h
 clear h
 replace H := Option.bind_eq_some_iff.mp H
 obtain ⟨t3, A4, H⟩ := H
 replace A4 := Aside0.mk A4
 try dsimp only at H
 replace H := Option.bind_eq_some_iff.mp H
 obtain ⟨t7, A10, H⟩ := H
 replace A10 := Aside0.mk A10
 try dsimp only at H
 replace H := Option.bind_eq_some_iff.mp H
 obtain ⟨t14, A15, H⟩ := H
 replace A15 := Aside0.mk A15
 try dsimp only at H
 replace H := Option.bind_eq_some_iff.mp H
 obtain ⟨t18, A21, H⟩ := H
 replace A21 := Aside0.mk A21
 try dsimp only at H
 go_enter Try.func132, Try.ntmps132
 refine wp_hide (fun Qf hQf => ?_)
 refine wp_seq_k (fun K1 hK1 => ?_)
 refine wp_region_lit ?_
 refine wpList_plain rfl (fun Ko hKo => ?_)
 go_simp
 refine hKo _ _ ?_
 clear hKo Ko
 try simp only [Act.put, nm1, nm2, nm3, i64_w]
 refine wpList_nil ?_
 (try simp only [Exit.then, Exit.inBlock, ↓reduceIte, Nat.reduceEqDiff])
 refine hK1 _ _ ?_
 refine wp_seq_k (fun K2 hK2 => ?_)
 refine wp_region_lit ?_
 refine wpList_plain rfl (fun Ko hKo => ?_)
 go_simp
 refine hKo _ _ ?_
 clear hKo Ko
 try simp only [Act.put, nm1, nm2, nm3, i64_w]
 refine wpList_plain rfl (fun Ko hKo => ?_)
 go_simp
 refine hKo _ _ ?_
 clear hKo Ko
 try simp only [Act.put, nm1, nm2, nm3, i64_w]
 refine wpList_plain rfl (fun Ko hKo => ?_)
 go_simp
 refine hKo _ _ ?_
 clear hKo Ko
 try simp only [Act.put, nm1, nm2, nm3, i64_w]
 refine wpList_plain rfl (fun Ko hKo => ?_)
 go_simp
 refine hKo _ _ ?_
 clear hKo Ko
 try simp only [Act.put, nm1, nm2, nm3, i64_w]
 refine wpList_plain rfl (fun Ko hKo => ?_)
 go_simp
 refine hKo _ _ ?_
 clear hKo Ko
 try simp only [Act.put, nm1, nm2, nm3, i64_w]
 refine wpList_plain rfl (fun Ko hKo => ?_)
 go_simp
 refine hKo _ _ ?_
 clear hKo Ko
 try simp only [Act.put, nm1, nm2, nm3, i64_w]
 refine wpList_plain rfl (fun Ko hKo => ?_)
 go_simp
 refine hKo _ _ ?_
 clear hKo Ko
 try simp only [Act.put, nm1, nm2, nm3, i64_w]
 refine step_call (wanted_none rfl) (by first | (go_simp; done) | (go_simp; rfl)) (impl_product.calls K a0 a1 1 0 1 0 t3 w  A4.out) ?_
 rintro e w5 ⟨rfl, hu⟩
 have hu6 := Aside0.mk hu
 clear hu
 refine ⟨_, rfl, ?_⟩
 simp only [Act.put, nm1, nm2, nm3, i64_w]
 refine step_call (wanted_none rfl) (by first | (go_simp; done) | (go_simp; rfl)) (impl_pointsAt.calls K a0 a1 0 0 t3 t7 w5  A10.out) ?_
 rintro e w11 ⟨P8, q9, rfl, ht7, hu⟩
 have hu12 := Aside0.mk hu
 clear hu
 refine ⟨_, rfl, ?_⟩
 simp only [Act.put, nm1, nm2, nm3, i64_w]
 refine wpList_plain rfl (fun Ko hKo => ?_)
 go_simp
 refine hKo _ _ ?_
 clear hKo Ko
 try simp only [Act.put, nm1, nm2, nm3, i64_w]
 refine wpList_nil ?_
 (try simp only [Exit.then, Exit.inBlock, ↓reduceIte, Nat.reduceEqDiff])
 refine hK2 _ _ ?_
 refine wp_seq_k (fun K13 hK13 => ?_)
 refine wp_region_lit ?_
 refine wpList_plain rfl (fun Ko hKo => ?_)
 go_simp
 refine hKo _ _ ?_
 clear hKo Ko
 try simp only [Act.put, nm1, nm2, nm3, i64_w]
 refine wpList_plain rfl (fun Ko hKo => ?_)
 go_simp
 refine hKo _ _ ?_
 clear hKo Ko
 try simp only [Act.put, nm1, nm2, nm3, i64_w]
 refine wpList_plain rfl (fun Ko hKo => ?_)
 go_simp
 refine hKo _ _ ?_
 clear hKo Ko
 try simp only [Act.put, nm1, nm2, nm3, i64_w]
 refine wpList_plain rfl (fun Ko hKo => ?_)
 go_simp
 refine hKo _ _ ?_
 clear hKo Ko
 try simp only [Act.put, nm1, nm2, nm3, i64_w]
 refine wpList_plain rfl (fun Ko hKo => ?_)
 go_simp
 refine hKo _ _ ?_
 clear hKo Ko
 try simp only [Act.put, nm1, nm2, nm3, i64_w]
 refine wpList_plain rfl (fun Ko hKo => ?_)
 go_simp
 refine hKo _ _ ?_
 clear hKo Ko
 try simp only [Act.put, nm1, nm2, nm3, i64_w]
 refine wpList_plain rfl (fun Ko hKo => ?_)
 go_simp
 refine hKo _ _ ?_
 clear hKo Ko
 try simp only [Act.put, nm1, nm2, nm3, i64_w]
 refine step_call (wanted_none rfl) (by first | (go_simp; done) | (go_simp; rfl)) (impl_product.calls K a0 a1 0 1 0 1 t14 w11  A15.out) ?_
 rintro e w16 ⟨rfl, hu⟩
 have hu17 := Aside0.mk hu
 clear hu
 refine ⟨_, rfl, ?_⟩
 simp only [Act.put, nm1, nm2, nm3, i64_w]
 refine step_call (wanted_none rfl) (by first | (go_simp; done) | (go_simp; rfl)) (impl_pointsAt.calls K a0 a1 0 0 t14 t18 w16  A21.out) ?_
 rintro e w22 ⟨P19, q20, rfl, ht18, hu⟩
 have hu23 := Aside0.mk hu
 clear hu
 refine ⟨_, rfl, ?_⟩
 simp only [Act.put, nm1, nm2, nm3, i64_w]
 refine wpList_plain rfl (fun Ko hKo => ?_)
 go_simp
 refine hKo _ _ ?_
 clear hKo Ko
 try simp only [Act.put, nm1, nm2, nm3, i64_w]
 refine wpList_nil ?_
 (try simp only [Exit.then, Exit.inBlock, ↓reduceIte, Nat.reduceEqDiff])
 refine hK13 _ _ ?_
 refine wp_seq_k (fun K24 hK24 => ?_)
 refine wp_region_lit ?_
 refine step_new (cs := []) (T := 22) (f := fun b => .slice (some ⟨b, 0, none⟩) 0 0) rfl (by first | (go_simp; done) | (go_simp; rfl)) ?_
 intro b25 w26 hu lb hb25
 simp only [Act.put, nm1, nm2, nm3, i64_w]
 have lbb25 := Aside0.mk lb
 have ltb25 := Aside0.mk hb25.lt
 clear lb
 have hu27 := Aside0.mk hu
 clear hu
 refine wpList_plain rfl (fun Ko hKo => ?_)
 go_simp
 refine hKo _ _ ?_
 clear hKo Ko
 try simp only [Act.put, nm1, nm2, nm3, i64_w]
 refine wpList_nil ?_
 (try simp only [Exit.then, Exit.inBlock, ↓reduceIte, Nat.reduceEqDiff])
 refine hK24 _ _ ?_
 refine wp_seq_k (fun K28 hK28 => ?_)
 refine wp_seq_k (fun K29 hK29 => ?_)
 refine wp_region_lit ?_
 refine wpList_plain rfl (fun Ko hKo => ?_)
 go_simp
 refine hKo _ _ ?_
 clear hKo Ko
 try simp only [Act.put, nm1, nm2, nm3, i64_w]
 refine wpList_plain rfl (fun Ko hKo => ?_)
 go_simp
 refine hKo _ _ ?_
 clear hKo Ko
 try simp only [Act.put, nm1, nm2, nm3, i64_w]
 refine wpList_plain rfl (fun Ko hKo => ?_)
 go_simp
 refine hKo _ _ ?_
 clear hKo Ko
 try simp only [Act.put, nm1, nm2, nm3, i64_w]
 refine wpList_nil ?_
 (try simp only [Exit.then, Exit.inBlock, ↓reduceIte, Nat.reduceEqDiff])
 refine hK29 _ _ ?_
 refine wp_block ?_
 have h31 : Own e4 22 w26 w22.heap.size (.slice (some ⟨b25, 0, none⟩) ([].length) 0) [] := Own.of_blk hb25 lbb25.out rfl (by simp) (by simp [Enc.flat, e4])
 have HL39 := Aside0.mk H
 clear H
 go_loopg [34, 7] K (fun kq v34 v7 w' => ∃ (x32 : Int) (x33 : List (Int × Int × Int × Int)) (P34 : Option Addr) (q35 : Nat), v34 = .int .i64 x32 ∧ v7 = .slice P34 x33.length q35 ∧ Aside0 (impl_keepers.l0 K a0 a1 t7 t18 kq x32 x33 = some (r0)) ∧ Aside0 (kq ≤ K) ∧ Aside0 (Up w22 w') ∧ Aside0 (w26.heap.size ≤ w'.heap.size) ∧ Own e4 22 w' w22.heap.size (.slice P34 x33.length q35) x33 ∧ Aside0 (∀ k l, blk (.slice P34 x33.length q35) = some k → blk (.slice P8 t7.length q9) = some l → k ≠ l) ∧ Aside0 (∀ k l, blk (.slice P34 x33.length q35) = some k → blk (.slice P19 t18.length q20) = some l → k ≠ l))
 case atStart => exact ⟨0, ([] : List (Int × Int × Int × Int)), some ⟨b25, 0, none⟩, 0, (by first | rfl | simp), (by first | rfl | simp), HL39, ⟨Nat.le_refl _⟩, ⟨hu27.out⟩, ⟨Nat.le_refl _⟩, h31, ⟨(fun k l hk hl => Ne.symm ((fun k l hk hl => Nat.ne_of_lt (Nat.lt_of_lt_of_le ((fun k hk => Nat.lt_of_lt_of_le (ht7.lt k hk).2 ((Nat.le_trans (hu17.out.size) hu23.out.size))) k hk) ((fun k hk => Nat.le_trans (Nat.le_refl _) (h31.lt k hk).1) l hl))) l k hl hk))⟩, ⟨(fun k l hk hl => Ne.symm ((fun k l hk hl => Nat.ne_of_lt (Nat.lt_of_lt_of_le ((fun k hk => Nat.lt_of_lt_of_le (ht18.lt k hk).2 (Nat.le_refl _)) k hk) ((fun k hk => Nat.le_trans (Nat.le_refl _) (h31.lt k hk).1) l hl))) l k hl hk))⟩⟩
 case round =>
  rename_i J46 K47 hJ46 hK47
  obtain ⟨x32, x33, P34, q35, rfl, rfl, HL45, hk44, hu37, hz38, h40, hn41, hn42⟩ := hrel
  obtain ⟨w36, rfl⟩ : ∃ wo : World, wo = wr := ⟨_, rfl⟩
  obtain ⟨k43, rfl⟩ | rfl : (∃ k, gk = k + 1) ∨ gk = 0 := by rcases gk with _ | k; exact .inr rfl; exact .inl ⟨k, rfl⟩
  case inr => exact absurd HL45.out (by simp [impl_keepers.l0])
  have H := HL45.out
  clear HL45
  rw [impl_keepers.l0] at H
  refine wp_seq_k (fun K48 hK48 => ?_)
  refine wp_region_lit ?_
  refine wpList_plain rfl (fun Ko hKo => ?_)
  go_simp
  refine hKo _ _ ?_
  clear hKo Ko
  try simp only [Act.put, nm1, nm2, nm3, i64_w]
  refine wpList_nil ?_
  (try simp only [Exit.then, Exit.inBlock, ↓reduceIte, Nat.reduceEqDiff])
  refine hK48 _ _ ?_
  refine wp_seq_k (fun K49 hK49 => ?_)
  have hm51 := Aside0.mk (Nat.le_trans ((Nat.le_trans ((Nat.le_trans ((Nat.le_trans ((Nat.le_trans (hu6.out.size) hu12.out.size)) hu17.out.size)) hu23.out.size)) hu27.out.size)) hz38.out)
  by_cases c50 : (decide (x32 < (t7.length : Int))) = true
  ·
   rw [if_pos c50] at H
   replace H := Option.bind_eq_some_iff.mp H
   obtain ⟨⟨t54, t55⟩, A56, H⟩ := H
   replace A56 := Aside0.mk A56
   try dsimp only at H
   try simp only [c50, Bool.not_true, Bool.not_false]
   refine wp_cond_true rfl ?_
   refine wp_skip ?_
   (try simp only [Exit.then, Exit.inBlock, ↓reduceIte, Nat.reduceEqDiff])
   refine hK49 _ _ ?_
   refine wp_seq_k (fun K52 hK52 => ?_)
   refine wp_block ?_
   refine wp_seq_k (fun K53 hK53 => ?_)
   refine wp_region_lit ?_
   refine step_index e2 (T := 26) (wanted_none rfl) rfl (by kernel_rfl) (by kernel_rfl) rfl rfl rfl (ht7.up ((hu17.out.trans hu23.out).trans hu37.out)).rd A56.out ?_
   intro ad57 hat he
   have he58 := Aside0.mk he
   have hat59 := Aside0.mk hat
   clear he hat
   simp only [Act.put, nm1, nm2, nm3, i64_w]
   have cl0 := he58.out 0 _ rfl
   rw [addr_add0] at cl0
   have cl1 : World.cell? _ ⟨ad57.block, ad57.off + 1, none⟩ = some _ := he58.out 1 _ rfl
   refine wpList_plain rfl (fun Ko hKo => ?_)
   go_simp
   refine hKo _ _ ?_
   clear hKo Ko
   clear cl0 cl1
   try simp only [Act.put, nm1, nm2, nm3, i64_w]
   refine step_new (cs := [.int .i64 0, .int .i64 0]) (T := 26) (f := fun b => .pointer (some ⟨b, 0, none⟩)) rfl (by first | (go_simp; done) | (go_simp; rfl)) ?_
   intro b60 w61 hu lb hb60
   simp only [Act.put, nm1, nm2, nm3, i64_w]
   have lbb60 := Aside0.mk lb
   have ltb60 := Aside0.mk hb60.lt
   clear lb
   have hu62 := Aside0.mk hu
   clear hu
   have hB0 := hb60
   have cl0 := hB0.cell (o := 0) rfl
   have fr0 := hB0.free 0
   have cl1 := hB0.cell (o := 1) rfl
   have fr1 := hB0.free 1
   refine step_store (b := b60) (cs' := [.int .i64 t54, .int .i64 t55]) (T := 26) (W' := ((w61.setCell ⟨b60, 0, none⟩ (.int .i64 t54)).setCell ⟨b60, 1, none⟩ (.int .i64 t55))) rfl rfl (by first | (go_simp; done) | (go_simp; rfl)) (((Sto.refl _ _).setCell 0 _).setCell 1 _) (((hB0).setCell 0 _).setCell 1 _) ?_
   clear hB0 cl0 fr0 cl1 fr1
   intro w63 hs hb65
   have hs64 := Aside0.mk hs
   clear hs
   refine wpList_nil ?_
   (try simp only [Exit.then, Exit.inBlock, ↓reduceIte, Nat.reduceEqDiff])
   refine hK53 _ _ ?_
   refine wp_seq_k (fun K66 hK66 => ?_)
   refine wp_region_lit ?_
   refine wpList_plain rfl (fun Ko hKo => ?_)
   go_simp
   refine hKo _ _ ?_
   clear hKo Ko
   try simp only [Act.put, nm1, nm2, nm3, i64_w]
   refine wpList_plain rfl (fun Ko hKo => ?_)
   go_simp
   refine hKo _ _ ?_
   clear hKo Ko
   try simp only [Act.put, nm1, nm2, nm3, i64_w]
   refine wpList_plain rfl (fun Ko hKo => ?_)
   go_simp
   refine hKo _ _ ?_
   clear hKo Ko
   try simp only [Act.put, nm1, nm2, nm3, i64_w]
   refine wpList_nil ?_
   (try simp only [Exit.then, Exit.inBlock, ↓reduceIte, Nat.reduceEqDiff])
   refine hK66 _ _ ?_
   refine wp_block ?_
   have HL74 := Aside0.mk H
   clear H
   go_loopg [40, 7] k43 (fun kq v40 v7 w' => ∃ (x67 : Int) (x68 : List (Int × Int × Int × Int)) (P69 : Option Addr) (q70 : Nat), v40 = .int .i64 x67 ∧ v7 = .slice P69 x68.length q70 ∧ Aside0 (impl_keepers.l1 K a0 a1 t7 t18 x32 t54 t55 kq x67 x68 = some (r0)) ∧ Aside0 (kq ≤ k43) ∧ Aside0 (Up w22 w') ∧ Aside0 (w63.heap.size ≤ w'.heap.size) ∧ Own e4 22 w' w22.heap.size (.slice P69 x68.length q70) x68 ∧ Blk w' b60 [.int .i64 t54, .int .i64 t55] 26 ∧ Aside0 (∀ k l, blk (.slice P69 x68.length q70) = some k → blk (.slice P8 t7.length q9) = some l → k ≠ l) ∧ Aside0 (∀ k l, blk (.slice P69 x68.length q70) = some k → blk (.slice P19 t18.length q20) = some l → k ≠ l) ∧ Aside0 (∀ k, blk (.slice P69 x68.length q70) = some k → k ≠ b60))
   case atStart => exact ⟨0, x33, P34, q35, (by first | rfl | simp), (by first | rfl | simp), HL74, ⟨Nat.le_refl _⟩, ⟨((hu37.out.trans hu62.out).sto (Nat.le_trans ((Nat.le_trans (hu27.out.size) hz38.out)) lbb60.out) hs64.out)⟩, ⟨Nat.le_refl _⟩, (h40.up (hu62.out.sto (Nat.le_trans (Nat.le_refl _) lbb60.out) hs64.out)), hb65, ⟨hn41.out⟩, ⟨hn42.out⟩, ⟨(fun k hk => Nat.ne_of_lt (Nat.lt_of_lt_of_le ((fun k hk => Nat.lt_of_lt_of_le (h40.lt k hk).2 (Nat.le_refl _)) k hk) lbb60.out))⟩⟩
   case round =>
    rename_i J83 K84 hJ83 hK84
    obtain ⟨x67, x68, P69, q70, rfl, rfl, HL82, hk81, hu72, hz73, h75, h76, hn77, hn78, hn79⟩ := hrel
    obtain ⟨w71, rfl⟩ : ∃ wo : World, wo = wr := ⟨_, rfl⟩
    obtain ⟨k80, rfl⟩ | rfl : (∃ k, gk = k + 1) ∨ gk = 0 := by rcases gk with _ | k; exact .inr rfl; exact .inl ⟨k, rfl⟩
    case inr => exact absurd HL82.out (by simp [impl_keepers.l1])
    have H := HL82.out
    clear HL82
    rw [impl_keepers.l1] at H
    refine wp_seq_k (fun K85 hK85 => ?_)
    refine wp_region_lit ?_
    refine wpList_plain rfl (fun Ko hKo => ?_)
    go_simp
    refine hKo _ _ ?_
    clear hKo Ko
    try simp only [Act.put, nm1, nm2, nm3, i64_w]
    refine wpList_nil ?_
    (try simp only [Exit.then, Exit.inBlock, ↓reduceIte, Nat.reduceEqDiff])
    refine hK85 _ _ ?_
    refine wp_seq_k (fun K86 hK86 => ?_)
    have hm88 := Aside0.mk (Nat.le_trans ((Nat.le_trans ((Nat.le_trans (hm51.out) hu62.out.size)) (Nat.le_of_eq hs64.out.size.symm))) hz73.out)
    have hm89 := Aside0.mk (Nat.le_trans ((Nat.le_trans ((Nat.le_trans ((Nat.le_trans (hu27.out.size) hz38.out)) hu62.out.size)) (Nat.le_of_eq hs64.out.size.symm))) hz73.out)
    by_cases c87 : (decide (x67 < (t18.length : Int))) = true
    ·
     rw [if_pos c87] at H
     replace H := Option.bind_eq_some_iff.mp H
     obtain ⟨⟨t92, t93⟩, A94, H⟩ := H
     replace A94 := Aside0.mk A94
     try dsimp only at H
     replace H := Option.bind_eq_some_iff.mp H
     obtain ⟨t112, A113, H⟩ := H
     replace A113 := Aside0.mk A113
     try dsimp only at H
     try simp only [c87, Bool.not_true, Bool.not_false]
     refine wp_cond_true rfl ?_
     refine wp_skip ?_
     (try simp only [Exit.then, Exit.inBlock, ↓reduceIte, Nat.reduceEqDiff])
     refine hK86 _ _ ?_
     refine wp_seq_k (fun K90 hK90 => ?_)
     refine wp_block ?_
     refine wp_seq_k (fun K91 hK91 => ?_)
     refine wp_region_lit ?_
     refine step_index e2 (T := 26) (wanted_none rfl) rfl (by kernel_rfl) (by kernel_rfl) rfl rfl rfl (ht18.up hu72.out).rd A94.out ?_
     intro ad95 hat he
     have he96 := Aside0.mk he
     have hat97 := Aside0.mk hat
     clear he hat
     simp only [Act.put, nm1, nm2, nm3, i64_w]
     have cl0 := he96.out 0 _ rfl
     rw [addr_add0] at cl0
     have cl1 : World.cell? _ ⟨ad95.block, ad95.off + 1, none⟩ = some _ := he96.out 1 _ rfl
     refine wpList_plain rfl (fun Ko hKo => ?_)
     go_simp
     refine hKo _ _ ?_
     clear hKo Ko
     clear cl0 cl1
     try simp only [Act.put, nm1, nm2, nm3, i64_w]
     refine step_new (cs := [.int .i64 0, .int .i64 0]) (T := 26) (f := fun b => .pointer (some ⟨b, 0, none⟩)) rfl (by first | (go_simp; done) | (go_simp; rfl)) ?_
     intro b98 w99 hu lb hb98
     simp only [Act.put, nm1, nm2, nm3, i64_w]
     have lbb98 := Aside0.mk lb
     have ltb98 := Aside0.mk hb98.lt
     clear lb
     have hu100 := Aside0.mk hu
     clear hu
     have hB0 := hb98
     have cl0 := hB0.cell (o := 0) rfl
     have fr0 := hB0.free 0
     have cl1 := hB0.cell (o := 1) rfl
     have fr1 := hB0.free 1
     refine step_store (b := b98) (cs' := [.int .i64 t92, .int .i64 t93]) (T := 26) (W' := ((w99.setCell ⟨b98, 0, none⟩ (.int .i64 t92)).setCell ⟨b98, 1, none⟩ (.int .i64 t93))) rfl rfl (by first | (go_simp; done) | (go_simp; rfl)) (((Sto.refl _ _).setCell 0 _).setCell 1 _) (((hB0).setCell 0 _).setCell 1 _) ?_
     clear hB0 cl0 fr0 cl1 fr1
     intro w101 hs hb103
     have hs102 := Aside0.mk hs
     clear hs
     refine wpList_nil ?_
     (try simp only [Exit.then, Exit.inBlock, ↓reduceIte, Nat.reduceEqDiff])
     refine hK91 _ _ ?_
     refine wp_seq_k (fun K104 hK104 => ?_)
     refine wp_region_lit ?_
     refine wpList_plain rfl (fun Ko hKo => ?_)
     go_simp
     refine hKo _ _ ?_
     clear hKo Ko
     try simp only [Act.put, nm1, nm2, nm3, i64_w]
     have cl0 := (h76.up (hu100.out.sto (Nat.le_trans (Nat.le_refl _) lbb98.out) hs102.out)).cell (o := 0) rfl
     refine wpList_plain rfl (fun Ko hKo => ?_)
     go_simp
     refine hKo _ _ ?_
     clear hKo Ko
     clear cl0
     try simp only [Act.put, nm1, nm2, nm3, i64_w]
     refine wpList_plain rfl (fun Ko hKo => ?_)
     go_simp
     refine hKo _ _ ?_
     clear hKo Ko
     try simp only [Act.put, nm1, nm2, nm3, i64_w]
     have cl0 := hb103.cell (o := 0) rfl
     refine wpList_plain rfl (fun Ko hKo => ?_)
     go_simp
     refine hKo _ _ ?_
     clear hKo Ko
     clear cl0
     try simp only [Act.put, nm1, nm2, nm3, i64_w]
     refine wpList_plain rfl (fun Ko hKo => ?_)
     go_simp
     refine hKo _ _ ?_
     clear hKo Ko
     try simp only [Act.put, nm1, nm2, nm3, i64_w]
     have cl0 := (h76.up (hu100.out.sto (Nat.le_trans (Nat.le_refl _) lbb98.out) hs102.out)).cell (o := 1) rfl
     refine wpList_plain rfl (fun Ko hKo => ?_)
     go_simp
     refine hKo _ _ ?_
     clear hKo Ko
     clear cl0
     try simp only [Act.put, nm1, nm2, nm3, i64_w]
     refine wpList_plain rfl (fun Ko hKo => ?_)
     go_simp
     refine hKo _ _ ?_
     clear hKo Ko
     try simp only [Act.put, nm1, nm2, nm3, i64_w]
     have cl0 := hb103.cell (o := 1) rfl
     refine wpList_plain rfl (fun Ko hKo => ?_)
     go_simp
     refine hKo _ _ ?_
     clear hKo Ko
     clear cl0
     try simp only [Act.put, nm1, nm2, nm3, i64_w]
     refine wpList_plain rfl (fun Ko hKo => ?_)
     go_simp
     refine hKo _ _ ?_
     clear hKo Ko
     try simp only [Act.put, nm1, nm2, nm3, i64_w]
     refine step_new (cs := [.int .i64 0, .int .i64 0, .int .i64 0, .int .i64 0]) (T := 22) (f := fun b => .pointer (some ⟨b, 0, none⟩)) rfl (by first | (go_simp; done) | (go_simp; rfl)) ?_
     intro b105 w106 hu lb hb105
     simp only [Act.put, nm1, nm2, nm3, i64_w]
     have lbb105 := Aside0.mk lb
     have ltb105 := Aside0.mk hb105.lt
     clear lb
     have hu107 := Aside0.mk hu
     clear hu
     have hB0 := hb105
     have cl0 := hB0.cell (o := 0) rfl
     have fr0 := hB0.free 0
     have cl1 := hB0.cell (o := 1) rfl
     have fr1 := hB0.free 1
     have cl2 := hB0.cell (o := 2) rfl
     have fr2 := hB0.free 2
     have cl3 := hB0.cell (o := 3) rfl
     have fr3 := hB0.free 3
     refine step_store (b := b105) (cs' := [.int .i64 t54, .int .i64 t92, .int .i64 t55, .int .i64 t93]) (T := 22) (W' := ((((w106.setCell ⟨b105, 0, none⟩ (.int .i64 t54)).setCell ⟨b105, 1, none⟩ (.int .i64 t92)).setCell ⟨b105, 2, none⟩ (.int .i64 t55)).setCell ⟨b105, 3, none⟩ (.int .i64 t93))) rfl rfl (by first | (go_simp; done) | (go_simp; rfl)) (((((Sto.refl _ _).setCell 0 _).setCell 1 _).setCell 2 _).setCell 3 _) (((((hB0).setCell 0 _).setCell 1 _).setCell 2 _).setCell 3 _) ?_
     clear hB0 cl0 fr0 cl1 fr1 cl2 fr2 cl3 fr3
     intro w108 hs hb110
     have hs109 := Aside0.mk hs
     clear hs
     refine wpList_nil ?_
     (try simp only [Exit.then, Exit.inBlock, ↓reduceIte, Nat.reduceEqDiff])
     refine hK104 _ _ ?_
     refine wp_seq_k (fun K111 hK111 => ?_)
     refine wp_region_lit ?_
     refine wpList_plain rfl (fun Ko hKo => ?_)
     go_simp
     refine hKo _ _ ?_
     clear hKo Ko
     try simp only [Act.put, nm1, nm2, nm3, i64_w]
     refine wpList_plain rfl (fun Ko hKo => ?_)
     go_simp
     refine hKo _ _ ?_
     clear hKo Ko
     try simp only [Act.put, nm1, nm2, nm3, i64_w]
     have cl0 := hb110.cell (o := 0) rfl
     have cl1 := hb110.cell (o := 1) rfl
     have cl2 := hb110.cell (o := 2) rfl
     have cl3 := hb110.cell (o := 3) rfl
     refine wpList_plain rfl (fun Ko hKo => ?_)
     go_simp
     refine hKo _ _ ?_
     clear hKo Ko
     clear cl0 cl1 cl2 cl3
     try simp only [Act.put, nm1, nm2, nm3, i64_w]
     refine step_call (wanted_none rfl) (by first | (go_simp; done) | (go_simp; rfl)) (impl_keeps.calls K a0 a1 t54 t92 t55 t93 t112 w108  A113.out) ?_
     rintro e w114 ⟨rfl, hu⟩
     have hu115 := Aside0.mk hu
     clear hu
     refine ⟨_, rfl, ?_⟩
     simp only [Act.put, nm1, nm2, nm3, i64_w]
     refine wpList_nil ?_
     (try simp only [Exit.then, Exit.inBlock, ↓reduceIte, Nat.reduceEqDiff])
     refine hK111 _ _ ?_
     have hm117 := Aside0.mk (((((((((hu6.out.trans hu12.out).trans hu17.out).trans hu23.out).trans hu72.out).trans hu100.out).sto (Nat.le_trans (hm88.out) lbb98.out) hs102.out).trans hu107.out).sto (Nat.le_trans ((Nat.le_trans ((Nat.le_trans (hm88.out) hu100.out.size)) (Nat.le_of_eq hs102.out.size.symm))) lbb105.out) hs109.out).trans hu115.out)
     have hm118 := Aside0.mk (Nat.le_trans ((Nat.le_trans ((Nat.le_trans ((Nat.le_trans ((Nat.le_trans (hm88.out) hu100.out.size)) (Nat.le_of_eq hs102.out.size.symm))) hu107.out.size)) (Nat.le_of_eq hs109.out.size.symm))) hu115.out.size)
     have hm119 := Aside0.mk (((((hu72.out.trans hu100.out).sto (Nat.le_trans (hm89.out) lbb98.out) hs102.out).trans hu107.out).sto (Nat.le_trans ((Nat.le_trans ((Nat.le_trans (hm89.out) hu100.out.size)) (Nat.le_of_eq hs102.out.size.symm))) lbb105.out) hs109.out).trans hu115.out)
     have hm120 := Aside0.mk (Nat.le_trans ((Nat.le_trans ((Nat.le_trans ((Nat.le_trans ((Nat.le_trans (hm89.out) hu100.out.size)) (Nat.le_of_eq hs102.out.size.symm))) hu107.out.size)) (Nat.le_of_eq hs109.out.size.symm))) hu115.out.size)
     have hm121 := Aside0.mk (Nat.le_trans ((Nat.le_trans ((Nat.le_trans ((Nat.le_trans ((Nat.le_trans ((Nat.le_trans (Nat.le_refl _) hz73.out)) hu100.out.size)) (Nat.le_of_eq hs102.out.size.symm))) hu107.out.size)) (Nat.le_of_eq hs109.out.size.symm))) hu115.out.size)
     have h122 := (h76.up ((((hu100.out.sto (Nat.le_trans (Nat.le_refl _) lbb98.out) hs102.out).trans hu107.out).sto (Nat.le_trans ((Nat.le_trans (hu100.out.size) (Nat.le_of_eq hs102.out.size.symm))) lbb105.out) hs109.out).trans hu115.out))
     have h123 := (hb103.up ((hu107.out.sto (Nat.le_trans (Nat.le_refl _) lbb105.out) hs109.out).trans hu115.out))
     by_cases c116 : (t112) = true
     ·
      rw [if_pos c116] at H
      subst c116
      refine wp_cond_true rfl ?_
      refine wp_region_lit ?_
      refine wpList_plain rfl (fun Ko hKo => ?_)
      go_simp
      refine hKo _ _ ?_
      clear hKo Ko
      try simp only [Act.put, nm1, nm2, nm3, i64_w]
      have cl0 := (hb110.up hu115.out).cell (o := 0) rfl
      have cl1 := (hb110.up hu115.out).cell (o := 1) rfl
      have cl2 := (hb110.up hu115.out).cell (o := 2) rfl
      have cl3 := (hb110.up hu115.out).cell (o := 3) rfl
      refine wpList_plain rfl (fun Ko hKo => ?_)
      go_simp
      refine hKo _ _ ?_
      clear hKo Ko
      clear cl0 cl1 cl2 cl3
      try simp only [Act.put, nm1, nm2, nm3, i64_w]
      refine step_new (cs := [.int .i64 t54, .int .i64 t92, .int .i64 t55, .int .i64 t93]) (T := 22) (f := fun b => .slice (some ⟨b, 0, none⟩) 1 1) rfl (by first | (go_simp; done) | (go_simp; rfl)) ?_
      intro b124 w125 hu lb hb124
      simp only [Act.put, nm1, nm2, nm3, i64_w]
      have lbb124 := Aside0.mk lb
      have ltb124 := Aside0.mk hb124.lt
      clear lb
      have hu126 := Aside0.mk hu
      clear hu
      by_cases c127 : (decide (x68.length ≤ 1000000)) = true
      ·
       rw [if_pos c127] at H
       have HL140 := Aside0.mk H
       clear H
       try simp only [c127, Bool.not_true, Bool.not_false]
       have hO0 := Aside0.mk (h75.up (((((hu100.out.sto (Nat.le_trans (Nat.le_refl _) lbb98.out) hs102.out).trans hu107.out).sto (Nat.le_trans ((Nat.le_trans (hu100.out.size) (Nat.le_of_eq hs102.out.size.symm))) lbb105.out) hs109.out).trans hu115.out).trans hu126.out))
       refine step_append e4 (z := .agg #[.int .i64 0, .int .i64 0, .int .i64 0, .int .i64 0]) (bytes := 32) (base := w22.heap.size) (xs := x68) (ys := [(t54, t92, t55, t93)]) (wanted_none rfl) _ _ rfl rfl (by kernel_rfl) rfl (by decide) rfl rfl rfl hO0.out (Rd.of_blk (E := e4) (xs := [(t54, t92, t55, t93)]) (o := 0) hb124 (by simp) (fun j u hu => by rcases j with _ | _ | _ | _ | j <;> simp_all [Enc.flat, e4])) ((Nat.le_trans (hm120.out) hu126.out.size)) (by have h0_ := (of_decide_eq_true (by assumption) : x68.length ≤ 1000000); (try simp only [List.length_cons, List.length_nil]); omega) ?_
       intro P128 q129 w130 h132 hg hat
       have hg133 := Aside0.mk hg
       have hat134 := Aside0.mk hat
       simp only [Act.put, nm1, nm2, nm3, i64_w]
       have lb135 := Aside0.mk hO0.out.lt
       clear hO0 hg hat
       have h136 := (h122.up hu126.out).grow hg133.out hn79.out
       have h137 := (h123.up hu126.out).grow hg133.out (fun k hk => Nat.ne_of_lt (Nat.lt_of_lt_of_le ((fun k hk => Nat.lt_of_lt_of_le (h75.lt k hk).2 (Nat.le_refl _)) k hk) lbb98.out))
       have h138 := (hb110.up (hu115.out.trans hu126.out)).grow hg133.out (fun k hk => Nat.ne_of_lt (Nat.lt_of_lt_of_le ((fun k hk => Nat.lt_of_lt_of_le (h75.lt k hk).2 ((Nat.le_trans (hu100.out.size) (Nat.le_of_eq hs102.out.size.symm)))) k hk) lbb105.out))
       have h139 := hb124.grow hg133.out (fun k hk => Nat.ne_of_lt (Nat.lt_of_lt_of_le ((fun k hk => Nat.lt_of_lt_of_le (h75.lt k hk).2 ((Nat.le_trans ((Nat.le_trans ((Nat.le_trans ((Nat.le_trans (hu100.out.size) (Nat.le_of_eq hs102.out.size.symm))) hu107.out.size)) (Nat.le_of_eq hs109.out.size.symm))) hu115.out.size))) k hk) lbb124.out))
       refine wpList_plain rfl (fun Ko hKo => ?_)
       go_simp
       refine hKo _ _ ?_
       clear hKo Ko
       try simp only [Act.put, nm1, nm2, nm3, i64_w]
       refine wpList_nil ?_
       (try simp only [Exit.then, Exit.inBlock, ↓reduceIte, Nat.reduceEqDiff])
       refine hK90 _ _ ?_
       refine wp_region_lit ?_
       refine wpList_plain rfl (fun Ko hKo => ?_)
       go_simp
       refine hKo _ _ ?_
       clear hKo Ko
       try simp only [Act.put, nm1, nm2, nm3, i64_w]
       refine wpList_plain rfl (fun Ko hKo => ?_)
       go_simp
       refine hKo _ _ ?_
       clear hKo Ko
       try simp only [Act.put, nm1, nm2, nm3, i64_w]
       refine wpList_nil ?_
       (try simp only [Exit.then, Exit.inBlock, ↓reduceIte, Nat.reduceEqDiff])
       refine hK84 _ _ ?_
       go_roundg k80
       case measure => exact Nat.lt_succ_self _
       case rel => exact ⟨wrap64 (x67 + 1), (x68 ++ [(t54, t92, t55, t93)]), P128, q129, (by first | rfl | simp), (by first | rfl | simp), HL140, ⟨by have := hk44.out; have := hk81.out; omega⟩, ⟨((hm119.out.trans hu126.out).grow hg133.out (fun k hk => Nat.le_trans (Nat.le_refl _) ((fun k hk => (lb135.out k hk).1) k hk)))⟩, ⟨(Nat.le_trans ((Nat.le_trans (hm121.out) hu126.out.size)) hg133.out.size)⟩, h132, h136, ⟨(fun k l hk hl => hat134.out.elim (fun e => hn77.out k l (e.symm.trans hk) hl) (fun g => Nat.ne_of_gt (Nat.lt_of_lt_of_le ((fun k hk => Nat.lt_of_lt_of_le (ht7.lt k hk).2 ((Nat.le_trans ((Nat.le_trans ((Nat.le_trans ((Nat.le_trans ((Nat.le_trans ((Nat.le_trans ((Nat.le_trans ((Nat.le_trans ((Nat.le_trans ((Nat.le_trans ((Nat.le_trans ((Nat.le_trans (hu17.out.size) hu23.out.size)) hu27.out.size)) hz38.out)) hu62.out.size)) (Nat.le_of_eq hs64.out.size.symm))) hz73.out)) hu100.out.size)) (Nat.le_of_eq hs102.out.size.symm))) hu107.out.size)) (Nat.le_of_eq hs109.out.size.symm))) hu115.out.size)) hu126.out.size))) l hl) (g k hk))))⟩, ⟨(fun k l hk hl => hat134.out.elim (fun e => hn78.out k l (e.symm.trans hk) hl) (fun g => Nat.ne_of_gt (Nat.lt_of_lt_of_le ((fun k hk => Nat.lt_of_lt_of_le (ht18.lt k hk).2 ((Nat.le_trans (hm120.out) hu126.out.size))) l hl) (g k hk))))⟩, ⟨(fun k hk => hat134.out.elim (fun e => hn79.out k (e.symm.trans hk)) (fun g => Nat.ne_of_gt (Nat.lt_of_lt_of_le (Nat.lt_of_lt_of_le ltb60.out ((Nat.le_trans ((Nat.le_trans ((Nat.le_trans ((Nat.le_trans ((Nat.le_trans ((Nat.le_trans ((Nat.le_trans ((Nat.le_of_eq hs64.out.size.symm)) hz73.out)) hu100.out.size)) (Nat.le_of_eq hs102.out.size.symm))) hu107.out.size)) (Nat.le_of_eq hs109.out.size.symm))) hu115.out.size)) hu126.out.size))) (g k hk))))⟩⟩
      ·
       rw [if_neg c127] at H
       replace c127 := Bool.eq_false_iff.mpr c127
       exact absurd H (by simp)
     ·
      rw [if_neg c116] at H
      replace c116 := Bool.eq_false_iff.mpr c116
      subst c116
      have HL141 := Aside0.mk H
      clear H
      refine wp_cond_false rfl ?_
      refine wp_skip ?_
      (try simp only [Exit.then, Exit.inBlock, ↓reduceIte, Nat.reduceEqDiff])
      refine hK90 _ _ ?_
      refine wp_region_lit ?_
      refine wpList_plain rfl (fun Ko hKo => ?_)
      go_simp
      refine hKo _ _ ?_
      clear hKo Ko
      try simp only [Act.put, nm1, nm2, nm3, i64_w]
      refine wpList_plain rfl (fun Ko hKo => ?_)
      go_simp
      refine hKo _ _ ?_
      clear hKo Ko
      try simp only [Act.put, nm1, nm2, nm3, i64_w]
      refine wpList_nil ?_
      (try simp only [Exit.then, Exit.inBlock, ↓reduceIte, Nat.reduceEqDiff])
      refine hK84 _ _ ?_
      go_roundg k80
      case measure => exact Nat.lt_succ_self _
      case rel => exact ⟨wrap64 (x67 + 1), x68, P69, q70, (by first | rfl | simp), (by first | rfl | simp), HL141, ⟨by have := hk44.out; have := hk81.out; omega⟩, ⟨hm119.out⟩, ⟨hm121.out⟩, (h75.up ((((hu100.out.sto (Nat.le_trans (Nat.le_refl _) lbb98.out) hs102.out).trans hu107.out).sto (Nat.le_trans ((Nat.le_trans (hu100.out.size) (Nat.le_of_eq hs102.out.size.symm))) lbb105.out) hs109.out).trans hu115.out)), h122, ⟨hn77.out⟩, ⟨hn78.out⟩, ⟨hn79.out⟩⟩
    ·
     rw [if_neg c87] at H
     replace c87 := Bool.eq_false_iff.mpr c87
     have HL142 := Aside0.mk H
     clear H
     try simp only [c87, Bool.not_true, Bool.not_false]
     refine wp_cond_false rfl ?_
     refine wp_exit ?_
     (try simp only [Exit.then, Exit.inBlock, ↓reduceIte, Nat.reduceEqDiff])
     refine hK52 _ _ ?_
     refine wp_region_lit ?_
     refine wpList_plain rfl (fun Ko hKo => ?_)
     go_simp
     refine hKo _ _ ?_
     clear hKo Ko
     try simp only [Act.put, nm1, nm2, nm3, i64_w]
     refine wpList_plain rfl (fun Ko hKo => ?_)
     go_simp
     refine hKo _ _ ?_
     clear hKo Ko
     try simp only [Act.put, nm1, nm2, nm3, i64_w]
     refine wpList_nil ?_
     (try simp only [Exit.then, Exit.inBlock, ↓reduceIte, Nat.reduceEqDiff])
     refine hK47 _ _ ?_
     go_roundg k80
     case measure => have := hk44.out; have := hk81.out; omega
     case rel => exact ⟨wrap64 (x32 + 1), x68, P69, q70, (by first | rfl | simp), (by first | rfl | simp), HL142, ⟨by have := hk44.out; have := hk81.out; omega⟩, ⟨hu72.out⟩, ⟨(Nat.le_trans ((Nat.le_trans ((Nat.le_trans ((Nat.le_trans (Nat.le_refl _) hz38.out)) hu62.out.size)) (Nat.le_of_eq hs64.out.size.symm))) hz73.out)⟩, h75, ⟨hn77.out⟩, ⟨hn78.out⟩⟩
  ·
   rw [if_neg c50] at H
   replace c50 := Bool.eq_false_iff.mpr c50
   obtain rfl := Option.some.inj H
   try simp only [c50, Bool.not_true, Bool.not_false]
   refine wp_cond_false rfl ?_
   refine wp_exit ?_
   (try simp only [Exit.then, Exit.inBlock, ↓reduceIte, Nat.reduceEqDiff])
   refine hK28 _ _ ?_
   refine wp_seq_k (fun K143 hK143 => ?_)
   refine wp_region_lit ?_
   refine wpList_plain rfl (fun Ko hKo => ?_)
   go_simp
   refine hKo _ _ ?_
   clear hKo Ko
   try simp only [Act.put, nm1, nm2, nm3, i64_w]
   refine wpList_plain rfl (fun Ko hKo => ?_)
   go_simp
   refine hKo _ _ ?_
   clear hKo Ko
   try simp only [Act.put, nm1, nm2, nm3, i64_w]
   refine wpList_nil ?_
   (try simp only [Exit.then, Exit.inBlock, ↓reduceIte, Nat.reduceEqDiff])
   refine hK143 _ _ ?_
   refine wp_ret ?_
   (try simp only [Exit.then, Exit.inBlock, ↓reduceIte, Nat.reduceEqDiff])
   refine hQf _ _ _ ?_
   exact bodyPost_ret (v := .slice P34 x33.length q35) (by first | rfl | (simp [results, Try.results132, go_sem]; done) | (simp [results, Try.results132, go_sem]; rfl)) rfl ⟨P34, q35, rfl, (h40.lower ((Nat.le_trans ((Nat.le_trans ((Nat.le_trans (hu6.out.size) hu12.out.size)) hu17.out.size)) hu23.out.size))), ((((hu6.out.trans hu12.out).trans hu17.out).trans hu23.out).trans hu37.out)⟩

set_option maxHeartbeats 40000000 in
set_option maxRecDepth 100000 in
theorem impl_MovesBetween_2.calls (K : Nat) (a0_0 : Int) (a0_1 : Int) (a0_2 : Int) (a0_3 : Int) (bf0 : Nat) (f0_0 : Int) (bf1 : Nat) (f1_0 : Int) (f1_1 : Int) (bf2 : Nat) (f2_0 : Int) (f2_1 : Int) (r0 : Bool) (w : World) (hf0 : Blk w bf0 [.int .i64 f0_0] 2) (hf1 : Blk w bf1 [.int .i64 f1_0, .int .i64 f1_1] 26) (hf2 : Blk w bf2 [.int .i64 f2_0, .int .i64 f2_1] 26) (h : impl_MovesBetween_2.f K a0_0 a0_1 a0_2 a0_3 f0_0 f1_0 f1_1 f2_0 f2_1 = some (r0)) :
    Calls Try.prog 107 #[.agg #[.int .i64 a0_0, .int .i64 a0_1, .int .i64 a0_2, .int .i64 a0_3], .pointer (some ⟨bf0, 0, none⟩), .pointer (some ⟨bf1, 0, none⟩), .pointer (some ⟨bf2, 0, none⟩)] w fun e w' => e = .returned (.bool r0) ∧ Up w w' := by
 have H : (((impl_turned.f K f0_0 a0_0 a0_1 a0_2 a0_3 f1_0 f1_1).bind fun (t6, t7) => some (t6 == f2_0 && t7 == f2_1)) : Option (Bool)) = some (r0) := h
 clear h
 replace H := Option.bind_eq_some_iff.mp H
 obtain ⟨⟨t6, t7⟩, A8, H⟩ := H
 replace A8 := Aside0.mk A8
 try dsimp only at H
 obtain rfl := Option.some.inj H
 have ltbf0 := Aside0.mk hf0.lt
 have ltbf1 := Aside0.mk hf1.lt
 have ltbf2 := Aside0.mk hf2.lt
 go_enter Try.func107, Try.ntmps107
 refine wp_hide (fun Qf hQf => ?_)
 refine wp_seq_k (fun K1 hK1 => ?_)
 refine wp_region_lit ?_
 refine step_new (cs := [.int .i64 a0_0, .int .i64 a0_1, .int .i64 a0_2, .int .i64 a0_3]) (T := 22) (f := fun b => .pointer (some ⟨b, 0, none⟩)) rfl (by first | (go_simp; done) | (go_simp; rfl)) ?_
 intro b2 w3 hu lb hb2
 simp only [Act.put, nm1, nm2, nm3, i64_w]
 have lbb2 := Aside0.mk lb
 have ltb2 := Aside0.mk hb2.lt
 clear lb
 have hu4 := Aside0.mk hu
 clear hu
 refine wpList_plain rfl (fun Ko hKo => ?_)
 go_simp
 refine hKo _ _ ?_
 clear hKo Ko
 try simp only [Act.put, nm1, nm2, nm3, i64_w]
 refine wpList_nil ?_
 (try simp only [Exit.then, Exit.inBlock, ↓reduceIte, Nat.reduceEqDiff])
 refine hK1 _ _ ?_
 refine wp_seq_k (fun K5 hK5 => ?_)
 refine' wp_region_up 6 [Slot.det _, Slot.det _, Slot.det _, Slot.det (.agg #[.int .i64 t6, .int .i64 t7]), Slot.det _, Slot.det _] (by kernel_rfl) (by kernel_rfl) ?main
 case main =>
  simp only [List.take_succ_cons, List.take_zero]
  refine wpK_ops rfl (fun w1 hu => ?_) ?_
  · have cl0 := ((hf0.up hu4.out).up ((Up.refl _).drew.trans hu)).cell (o := 0) rfl
    go_simp
    first | done | rfl
  simp only [Act.put, nm1, nm2, nm3, i64_w]
  refine wpK_ops rfl (fun w1 hu => ?_) ?_
  · have cl0 := (hb2.up ((Up.refl _).drew.trans hu)).cell (o := 0) rfl
    have cl1 := (hb2.up ((Up.refl _).drew.trans hu)).cell (o := 1) rfl
    have cl2 := (hb2.up ((Up.refl _).drew.trans hu)).cell (o := 2) rfl
    have cl3 := (hb2.up ((Up.refl _).drew.trans hu)).cell (o := 3) rfl
    go_simp
    first | done | rfl
  simp only [Act.put, nm1, nm2, nm3, i64_w]
  refine wpK_ops rfl (fun w1 hu => ?_) ?_
  · have cl0 := ((hf1.up hu4.out).up ((Up.refl _).drew.trans hu)).cell (o := 0) rfl
    have cl1 := ((hf1.up hu4.out).up ((Up.refl _).drew.trans hu)).cell (o := 1) rfl
    go_simp
    first | done | rfl
  simp only [Act.put, nm1, nm2, nm3, i64_w]
  refine wpK_ops rfl (fun w1 hu => ?_) ?_
  · have hcl := (impl_turned.calls K f0_0 a0_0 a0_1 a0_2 a0_3 f1_0 f1_1 t6 t7 w1  A8.out)
    clear hu
    replace hcl := Aside0.mk hcl
    go_simp
    exact hcl.out
  simp only [Act.put, nm1, nm2, nm3, i64_w]
  refine wpK_ops rfl (fun w1 hu => ?_) ?_
  · have cl0 := ((hf2.up hu4.out).up ((Up.refl _).drew.trans hu)).cell (o := 0) rfl
    have cl1 := ((hf2.up hu4.out).up ((Up.refl _).drew.trans hu)).cell (o := 1) rfl
    go_simp
    first | done | rfl
  simp only [Act.put, nm1, nm2, nm3, i64_w]
  refine wpK_ops rfl (fun w1 hu => ?_) ?_
  · clear hu
    go_simp
    first | done | rfl
  simp only [Act.put, nm1, nm2, nm3, i64_w]
  refine wpK_nil ?_
  intro w9 hu hap
  simp only [List.drop_succ_cons, List.drop_zero]
  replace hu := (Up.refl _).drew.trans hu
  clear hap
  have hu10 := Aside0.mk hu
  clear hu
  refine wpList_plain rfl (fun Ko hKo => ?_)
  go_simp
  refine hKo _ _ ?_
  clear hKo Ko
  try simp only [Act.put, nm1, nm2, nm3, i64_w]
  refine wpList_nil ?_
  (try simp only [Exit.then, Exit.inBlock, ↓reduceIte, Nat.reduceEqDiff])
  refine hK5 _ _ ?_
  refine wp_ret ?_
  (try simp only [Exit.then, Exit.inBlock, ↓reduceIte, Nat.reduceEqDiff])
  refine hQf _ _ _ ?_
  exact bodyPost_ret (v := .bool (t6 == f2_0 && t7 == f2_1)) (by first | rfl | (simp [results, Try.results107, go_sem]; done) | (simp [results, Try.results107, go_sem]; rfl)) rfl ⟨rfl, (hu4.out.trans hu10.out)⟩

set_option maxHeartbeats 40000000 in
set_option maxRecDepth 100000 in
theorem impl_before.calls (K : Nat) (a0_A : Option Addr) (a0_c : Nat) (a0 : List (Int)) (a1_A : Option Addr) (a1_c : Nat) (a1 : List (Int)) (r0 : Bool) (w : World) (ha0 : Rd eI w a0_A a0) (ha1 : Rd eI w a1_A a1) (h : impl_before.f K a0 a1 = some (r0)) :
    Calls Try.prog 133 #[.slice a0_A a0.length a0_c, .slice a1_A a1.length a1_c] w fun e w' => e = .returned (.bool r0) ∧ Up w w' := by
 have H : ((impl_before.l0 K a0 a1 K 0) : Option (Bool)) = some (r0) := h
 clear h
 go_enter Try.func133, Try.ntmps133
 refine wp_hide (fun Qf hQf => ?_)
 refine wp_seq_k (fun K1 hK1 => ?_)
 refine wp_region_lit ?_
 refine wpList_plain rfl (fun Ko hKo => ?_)
 go_simp
 refine hKo _ _ ?_
 clear hKo Ko
 try simp only [Act.put, nm1, nm2, nm3, i64_w]
 refine wpList_nil ?_
 (try simp only [Exit.then, Exit.inBlock, ↓reduceIte, Nat.reduceEqDiff])
 refine hK1 _ _ ?_
 refine wp_seq_k (fun K2 hK2 => ?_)
 refine wp_seq_k (fun K3 hK3 => ?_)
 refine wp_region_lit ?_
 refine wpList_plain rfl (fun Ko hKo => ?_)
 go_simp
 refine hKo _ _ ?_
 clear hKo Ko
 try simp only [Act.put, nm1, nm2, nm3, i64_w]
 refine wpList_plain rfl (fun Ko hKo => ?_)
 go_simp
 refine hKo _ _ ?_
 clear hKo Ko
 try simp only [Act.put, nm1, nm2, nm3, i64_w]
 refine wpList_plain rfl (fun Ko hKo => ?_)
 go_simp
 refine hKo _ _ ?_
 clear hKo Ko
 try simp only [Act.put, nm1, nm2, nm3, i64_w]
 refine wpList_nil ?_
 (try simp only [Exit.then, Exit.inBlock, ↓reduceIte, Nat.reduceEqDiff])
 refine hK3 _ _ ?_
 refine wp_block ?_
 have HL8 := Aside0.mk H
 clear H
 go_loopg [8] K (fun kq v8 w' => ∃ (x4 : Int), v8 = .int .i64 x4 ∧ Aside0 (impl_before.l0 K a0 a1 kq x4 = some (r0)) ∧ Aside0 (kq ≤ K) ∧ Aside0 (Up w w') ∧ Aside0 (w.heap.size ≤ w'.heap.size))
 case atStart => exact ⟨0, (by first | rfl | simp), HL8, ⟨Nat.le_refl _⟩, ⟨(Up.refl _)⟩, ⟨Nat.le_refl _⟩⟩
 case round =>
  rename_i J12 K13 hJ12 hK13
  obtain ⟨x4, rfl, HL11, hk10, hu6, hz7⟩ := hrel
  obtain ⟨w5, rfl⟩ : ∃ wo : World, wo = wr := ⟨_, rfl⟩
  obtain ⟨k9, rfl⟩ | rfl : (∃ k, gk = k + 1) ∨ gk = 0 := by rcases gk with _ | k; exact .inr rfl; exact .inl ⟨k, rfl⟩
  case inr => exact absurd HL11.out (by simp [impl_before.l0])
  have H := HL11.out
  clear HL11
  rw [impl_before.l0] at H
  refine wp_seq_k (fun K14 hK14 => ?_)
  refine wp_region_lit ?_
  refine wpList_plain rfl (fun Ko hKo => ?_)
  go_simp
  refine hKo _ _ ?_
  clear hKo Ko
  try simp only [Act.put, nm1, nm2, nm3, i64_w]
  refine wpList_nil ?_
  (try simp only [Exit.then, Exit.inBlock, ↓reduceIte, Nat.reduceEqDiff])
  refine hK14 _ _ ?_
  refine wp_seq_k (fun K15 hK15 => ?_)
  by_cases c16 : (decide (x4 < (a0.length : Int))) = true
  ·
   rw [if_pos c16] at H
   replace H := Option.bind_eq_some_iff.mp H
   obtain ⟨t20, A21, H⟩ := H
   replace A21 := Aside0.mk A21
   try dsimp only at H
   replace H := Option.bind_eq_some_iff.mp H
   obtain ⟨t26, A27, H⟩ := H
   replace A27 := Aside0.mk A27
   try dsimp only at H
   try simp only [c16, Bool.not_true, Bool.not_false]
   refine wp_cond_true rfl ?_
   refine wp_skip ?_
   (try simp only [Exit.then, Exit.inBlock, ↓reduceIte, Nat.reduceEqDiff])
   refine hK15 _ _ ?_
   refine wp_seq_k (fun K17 hK17 => ?_)
   refine wp_block ?_
   refine wp_seq_k (fun K18 hK18 => ?_)
   refine wp_region_lit ?_
   refine wpList_plain rfl (fun Ko hKo => ?_)
   go_simp
   refine hKo _ _ ?_
   clear hKo Ko
   try simp only [Act.put, nm1, nm2, nm3, i64_w]
   refine wpList_plain rfl (fun Ko hKo => ?_)
   go_simp
   refine hKo _ _ ?_
   clear hKo Ko
   try simp only [Act.put, nm1, nm2, nm3, i64_w]
   refine wpList_nil ?_
   (try simp only [Exit.then, Exit.inBlock, ↓reduceIte, Nat.reduceEqDiff])
   refine hK18 _ _ ?_
   refine wp_seq_k (fun K19 hK19 => ?_)
   obtain ⟨ad22, hat, he⟩ := rd_at (ha0.up hu6.out) A21.out
   have he23 := Aside0.mk he
   have hat25 := Aside0.mk hat
   clear he hat
   obtain ⟨ad28, hat, he⟩ := rd_at (ha1.up hu6.out) A27.out
   have he29 := Aside0.mk he
   have hat31 := Aside0.mk hat
   clear he hat
   refine' wp_region_up 9 [Slot.det _, Slot.det _, Slot.det (.pointer (some ad22)), Slot.det _, Slot.det _, Slot.det _, Slot.det (.pointer (some ad28)), Slot.det _, Slot.det _] (by kernel_rfl) (by kernel_rfl) ?main
   case main =>
    simp only [List.take_succ_cons, List.take_zero]
    refine wpK_ops rfl (fun w1 hu => ?_) ?_
    · clear hu
      go_simp
      first | done | rfl
    simp only [Act.put, nm1, nm2, nm3, i64_w]
    refine wpK_ops rfl (fun w1 hu => ?_) ?_
    · clear hu
      go_simp
      first | done | rfl
    simp only [Act.put, nm1, nm2, nm3, i64_w]
    refine wpK_ops rfl (fun w1 hu => ?_) ?_
    · exact quiet_index eI (T := 2) rfl (by kernel_rfl) (by kernel_rfl) rfl rfl rfl hat25.out A21.out
    simp only [Act.put, nm1, nm2, nm3, i64_w]
    refine wpK_ops rfl (fun w1 hu => ?_) ?_
    · have cl0 := he23.out 0 _ rfl
      rw [addr_add0] at cl0
      replace cl0 := (((Up.refl _).drew.trans hu)).kept cl0
      go_simp
      first | done | rfl
    simp only [Act.put, nm1, nm2, nm3, i64_w]
    refine wpK_ops rfl (fun w1 hu => ?_) ?_
    · clear hu
      go_simp
      first | done | rfl
    simp only [Act.put, nm1, nm2, nm3, i64_w]
    refine wpK_ops rfl (fun w1 hu => ?_) ?_
    · clear hu
      go_simp
      first | done | rfl
    simp only [Act.put, nm1, nm2, nm3, i64_w]
    refine wpK_ops rfl (fun w1 hu => ?_) ?_
    · exact quiet_index eI (T := 2) rfl (by kernel_rfl) (by kernel_rfl) rfl rfl rfl hat31.out A27.out
    simp only [Act.put, nm1, nm2, nm3, i64_w]
    refine wpK_ops rfl (fun w1 hu => ?_) ?_
    · have cl0 := he29.out 0 _ rfl
      rw [addr_add0] at cl0
      replace cl0 := (((Up.refl _).drew.trans hu)).kept cl0
      go_simp
      first | done | rfl
    simp only [Act.put, nm1, nm2, nm3, i64_w]
    refine wpK_ops rfl (fun w1 hu => ?_) ?_
    · clear hu
      go_simp
      first | done | rfl
    simp only [Act.put, nm1, nm2, nm3, i64_w]
    refine wpK_nil ?_
    intro w32 hu hap
    simp only [List.drop_succ_cons, List.drop_zero]
    replace hu := (Up.refl _).drew.trans hu
    clear hap
    have hu33 := Aside0.mk hu
    clear hu
    refine wpList_nil ?_
    (try simp only [Exit.then, Exit.inBlock, ↓reduceIte, Nat.reduceEqDiff])
    refine hK19 _ _ ?_
    by_cases c34 : (t20 == t26) = true
    ·
     rw [if_pos c34] at H
     have c34n : (t20 != t26) = false := by rw [bne, c34]; rfl
     have HL35 := Aside0.mk H
     clear H
     try simp only [c34, c34n, Bool.not_true, Bool.not_false]
     refine wp_cond_false rfl ?_
     refine wp_skip ?_
     (try simp only [Exit.then, Exit.inBlock, ↓reduceIte, Nat.reduceEqDiff])
     refine hK17 _ _ ?_
     refine wp_region_lit ?_
     refine wpList_plain rfl (fun Ko hKo => ?_)
     go_simp
     refine hKo _ _ ?_
     clear hKo Ko
     try simp only [Act.put, nm1, nm2, nm3, i64_w]
     refine wpList_plain rfl (fun Ko hKo => ?_)
     go_simp
     refine hKo _ _ ?_
     clear hKo Ko
     try simp only [Act.put, nm1, nm2, nm3, i64_w]
     refine wpList_nil ?_
     (try simp only [Exit.then, Exit.inBlock, ↓reduceIte, Nat.reduceEqDiff])
     refine hK13 _ _ ?_
     go_roundg k9
     case measure => exact Nat.lt_succ_self _
     case rel => exact ⟨wrap64 (x4 + 1), (by first | rfl | simp), HL35, ⟨by have := hk10.out; omega⟩, ⟨(hu6.out.trans hu33.out)⟩, ⟨(Nat.le_trans ((Nat.le_trans (Nat.le_refl _) hz7.out)) hu33.out.size)⟩⟩
    ·
     rw [if_neg c34] at H
     replace c34 := Bool.eq_false_iff.mpr c34
     have c34n : (t20 != t26) = true := by rw [bne, c34]; rfl
     have c34p : ¬ t20 = t26 := fun e => by simp [e] at c34
     replace H := Option.bind_eq_some_iff.mp H
     obtain ⟨t37, A38, H⟩ := H
     replace A38 := Aside0.mk A38
     try dsimp only at H
     replace H := Option.bind_eq_some_iff.mp H
     obtain ⟨t43, A44, H⟩ := H
     replace A44 := Aside0.mk A44
     try dsimp only at H
     obtain rfl := Option.some.inj H
     try simp only [c34, c34n, Bool.not_true, Bool.not_false]
     refine wp_cond_true rfl ?_
     refine wp_seq_k (fun K36 hK36 => ?_)
     obtain ⟨ad39, hat, he⟩ := rd_at (ha0.up (hu6.out.trans hu33.out)) A38.out
     have he40 := Aside0.mk he
     have hat42 := Aside0.mk hat
     clear he hat
     obtain ⟨ad45, hat, he⟩ := rd_at (ha1.up (hu6.out.trans hu33.out)) A44.out
     have he46 := Aside0.mk he
     have hat48 := Aside0.mk hat
     clear he hat
     refine' wp_region_up 9 [Slot.det _, Slot.det _, Slot.det (.pointer (some ad39)), Slot.det _, Slot.det _, Slot.det _, Slot.det (.pointer (some ad45)), Slot.det _, Slot.det _] (by kernel_rfl) (by kernel_rfl) ?main
     case main =>
      simp only [List.take_succ_cons, List.take_zero]
      refine wpK_ops rfl (fun w1 hu => ?_) ?_
      · clear hu
        go_simp
        first | done | rfl
      simp only [Act.put, nm1, nm2, nm3, i64_w]
      refine wpK_ops rfl (fun w1 hu => ?_) ?_
      · clear hu
        go_simp
        first | done | rfl
      simp only [Act.put, nm1, nm2, nm3, i64_w]
      refine wpK_ops rfl (fun w1 hu => ?_) ?_
      · exact quiet_index eI (T := 2) rfl (by kernel_rfl) (by kernel_rfl) rfl rfl rfl hat42.out A38.out
      simp only [Act.put, nm1, nm2, nm3, i64_w]
      refine wpK_ops rfl (fun w1 hu => ?_) ?_
      · have cl0 := he40.out 0 _ rfl
        rw [addr_add0] at cl0
        replace cl0 := (((Up.refl _).drew.trans hu)).kept cl0
        go_simp
        first | done | rfl
      simp only [Act.put, nm1, nm2, nm3, i64_w]
      refine wpK_ops rfl (fun w1 hu => ?_) ?_
      · clear hu
        go_simp
        first | done | rfl
      simp only [Act.put, nm1, nm2, nm3, i64_w]
      refine wpK_ops rfl (fun w1 hu => ?_) ?_
      · clear hu
        go_simp
        first | done | rfl
      simp only [Act.put, nm1, nm2, nm3, i64_w]
      refine wpK_ops rfl (fun w1 hu => ?_) ?_
      · exact quiet_index eI (T := 2) rfl (by kernel_rfl) (by kernel_rfl) rfl rfl rfl hat48.out A44.out
      simp only [Act.put, nm1, nm2, nm3, i64_w]
      refine wpK_ops rfl (fun w1 hu => ?_) ?_
      · have cl0 := he46.out 0 _ rfl
        rw [addr_add0] at cl0
        replace cl0 := (((Up.refl _).drew.trans hu)).kept cl0
        go_simp
        first | done | rfl
      simp only [Act.put, nm1, nm2, nm3, i64_w]
      refine wpK_ops rfl (fun w1 hu => ?_) ?_
      · clear hu
        go_simp
        first | done | rfl
      simp only [Act.put, nm1, nm2, nm3, i64_w]
      refine wpK_nil ?_
      intro w49 hu hap
      simp only [List.drop_succ_cons, List.drop_zero]
      replace hu := (Up.refl _).drew.trans hu
      clear hap
      have hu50 := Aside0.mk hu
      clear hu
      refine wpList_plain rfl (fun Ko hKo => ?_)
      go_simp
      refine hKo _ _ ?_
      clear hKo Ko
      try simp only [Act.put, nm1, nm2, nm3, i64_w]
      refine wpList_nil ?_
      (try simp only [Exit.then, Exit.inBlock, ↓reduceIte, Nat.reduceEqDiff])
      refine hK36 _ _ ?_
      refine wp_ret ?_
      (try simp only [Exit.then, Exit.inBlock, ↓reduceIte, Nat.reduceEqDiff])
      refine hQf _ _ _ ?_
      exact bodyPost_ret (v := .bool (decide (t37 < t43))) (by first | rfl | (simp [results, Try.results133, go_sem]; done) | (simp [results, Try.results133, go_sem]; rfl)) rfl ⟨rfl, ((hu6.out.trans hu33.out).trans hu50.out)⟩
  ·
   rw [if_neg c16] at H
   replace c16 := Bool.eq_false_iff.mpr c16
   obtain rfl := Option.some.inj H
   try simp only [c16, Bool.not_true, Bool.not_false]
   refine wp_cond_false rfl ?_
   refine wp_exit ?_
   (try simp only [Exit.then, Exit.inBlock, ↓reduceIte, Nat.reduceEqDiff])
   refine hK2 _ _ ?_
   refine wp_seq_k (fun K51 hK51 => ?_)
   refine wp_region_lit ?_
   refine wpList_plain rfl (fun Ko hKo => ?_)
   go_simp
   refine hKo _ _ ?_
   clear hKo Ko
   try simp only [Act.put, nm1, nm2, nm3, i64_w]
   refine wpList_nil ?_
   (try simp only [Exit.then, Exit.inBlock, ↓reduceIte, Nat.reduceEqDiff])
   refine hK51 _ _ ?_
   refine wp_ret ?_
   (try simp only [Exit.then, Exit.inBlock, ↓reduceIte, Nat.reduceEqDiff])
   refine hQf _ _ _ ?_
   exact bodyPost_ret (v := .bool false) (by first | rfl | (simp [results, Try.results133, go_sem]; done) | (simp [results, Try.results133, go_sem]; rfl)) rfl ⟨rfl, hu6.out⟩

end Go.Proofs.Ytbibgeoohpgaeaa
