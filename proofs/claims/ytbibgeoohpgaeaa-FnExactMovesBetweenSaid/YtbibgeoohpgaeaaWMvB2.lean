/- The walks: each of these functions of the program computes what its plain function says: spec_l07All, spec_l01Plus, spec_l07Move, spec_MovesBetween. -/
import Derived.Test.YtbibgeoohpgaeaaProg
import Derived.Test.YtbibgeoohpgaeaaD1
import Derived.WalkKit
import Derived.KernelRfl
import Derived.BigQuiet
import Derived.Deep.LoopGhost
import Derived.Laws.StructEq
import Derived.Test.YtbibgeoohpgaeaaWMvB1
namespace Go.Proofs.Ytbibgeoohpgaeaa
open Go Go.RowKit
attribute [local go_sem] Oper.quiet Oper.quietAt Oper.quietUpon
attribute [local irreducible] wpList
set_option linter.unusedVariables false
set_option linter.unusedSimpArgs false
attribute [local go_sem] eqT26

set_option maxHeartbeats 40000000 in
set_option maxRecDepth 100000 in
theorem spec_l07All.calls (K : Nat) (a0 : Int) (a1 : Int) (a2 : Int) (r0 : List (Int × Int × Int × Int × Int × Int)) (w : World)  (h : spec_l07All.f K a0 a1 a2 = some (r0)) :
    Calls Try.prog 74 #[.int .i64 a0, .int .i64 a1, .int .i64 a2] w fun e w' => ∃ (Ar0 : Option Addr) (cr0 : Nat), e = .returned (.slice Ar0 r0.length cr0) ∧ Own e6 30 w' w.heap.size (.slice Ar0 r0.length cr0) r0 ∧ Up w w' := by
 have H : ((spec_l07All.l0 K a0 a1 a2 K 0 ([] : List (Int × Int × Int × Int × Int × Int))) : Option (List (Int × Int × Int × Int × Int × Int))) = some (r0) := h
 clear h
 go_enter Try.func74, Try.ntmps74
 refine wp_hide (fun Qf hQf => ?_)
 refine wp_seq_k (fun K1 hK1 => ?_)
 refine wp_region_lit ?_
 refine wpList_plain rfl (fun Ko hKo => ?_)
 go_simp
 refine hKo _ _ ?_
 clear hKo Ko
 try simp only [Act.put, nm1, nm2, nm3, i64_w]
 refine wpList_nil ?_
 (try simp only [Exit.then, Exit.inBlock, ↓reduceIte, Nat.reduceEqDiff])
 refine hK1 _ _ ?_
 refine wp_seq_k (fun K2 hK2 => ?_)
 refine wp_region_lit ?_
 refine step_new (cs := []) (T := 30) (f := fun b => .slice (some ⟨b, 0, none⟩) 0 0) rfl (by first | (go_simp; done) | (go_simp; rfl)) ?_
 intro b3 w4 hu lb hb3
 simp only [Act.put, nm1, nm2, nm3, i64_w]
 have lbb3 := Aside0.mk lb
 have ltb3 := Aside0.mk hb3.lt
 clear lb
 have hu5 := Aside0.mk hu
 clear hu
 refine wpList_plain rfl (fun Ko hKo => ?_)
 go_simp
 refine hKo _ _ ?_
 clear hKo Ko
 try simp only [Act.put, nm1, nm2, nm3, i64_w]
 refine wpList_nil ?_
 (try simp only [Exit.then, Exit.inBlock, ↓reduceIte, Nat.reduceEqDiff])
 refine hK2 _ _ ?_
 refine wp_seq_k (fun K6 hK6 => ?_)
 refine wp_seq_k (fun K7 hK7 => ?_)
 refine wp_region_lit ?_
 refine wpList_plain rfl (fun Ko hKo => ?_)
 go_simp
 refine hKo _ _ ?_
 clear hKo Ko
 try simp only [Act.put, nm1, nm2, nm3, i64_w]
 refine wpList_nil ?_
 (try simp only [Exit.then, Exit.inBlock, ↓reduceIte, Nat.reduceEqDiff])
 refine hK7 _ _ ?_
 refine wp_block ?_
 have h9 : Own e6 30 w4 w.heap.size (.slice (some ⟨b3, 0, none⟩) ([].length) 0) [] := Own.of_blk hb3 lbb3.out rfl (by simp) (by simp [Enc.flat, e6])
 have HL17 := Aside0.mk H
 clear H
 go_loopg [8, 7] K (fun kq v8 v7 w' => ∃ (x10 : Int) (x11 : List (Int × Int × Int × Int × Int × Int)) (P12 : Option Addr) (q13 : Nat), v8 = .int .i64 x10 ∧ v7 = .slice P12 x11.length q13 ∧ Aside0 (spec_l07All.l0 K a0 a1 a2 kq x10 x11 = some (r0)) ∧ Aside0 (kq ≤ K) ∧ Aside0 (Up w w') ∧ Aside0 (w4.heap.size ≤ w'.heap.size) ∧ Own e6 30 w' w.heap.size (.slice P12 x11.length q13) x11)
 case atStart => exact ⟨0, ([] : List (Int × Int × Int × Int × Int × Int)), some ⟨b3, 0, none⟩, 0, (by first | rfl | simp), (by first | rfl | simp), HL17, ⟨Nat.le_refl _⟩, ⟨hu5.out⟩, ⟨Nat.le_refl _⟩, h9⟩
 case round =>
  rename_i J22 K23 hJ22 hK23
  obtain ⟨x10, x11, P12, q13, rfl, rfl, HL21, hk20, hu15, hz16, h18⟩ := hrel
  obtain ⟨w14, rfl⟩ : ∃ wo : World, wo = wr := ⟨_, rfl⟩
  obtain ⟨k19, rfl⟩ | rfl : (∃ k, gk = k + 1) ∨ gk = 0 := by rcases gk with _ | k; exact .inr rfl; exact .inl ⟨k, rfl⟩
  case inr => exact absurd HL21.out (by simp [spec_l07All.l0])
  have H := HL21.out
  clear HL21
  rw [spec_l07All.l0] at H
  refine wp_seq_k (fun K24 hK24 => ?_)
  refine wp_seq_k (fun K25 hK25 => ?_)
  refine wp_region_lit ?_
  refine wpList_plain rfl (fun Ko hKo => ?_)
  go_simp
  refine hKo _ _ ?_
  clear hKo Ko
  try simp only [Act.put, nm1, nm2, nm3, i64_w]
  refine wpList_plain rfl (fun Ko hKo => ?_)
  go_simp
  refine hKo _ _ ?_
  clear hKo Ko
  try simp only [Act.put, nm1, nm2, nm3, i64_w]
  refine wpList_plain rfl (fun Ko hKo => ?_)
  go_simp
  refine hKo _ _ ?_
  clear hKo Ko
  try simp only [Act.put, nm1, nm2, nm3, i64_w]
  refine wpList_nil ?_
  (try simp only [Exit.then, Exit.inBlock, ↓reduceIte, Nat.reduceEqDiff])
  refine hK25 _ _ ?_
  by_cases c26 : (decide (x10 < a0)) = true
  ·
   rw [if_pos c26] at H
   try simp only [c26, Bool.not_true, Bool.not_false]
   refine wp_cond_true rfl ?_
   refine wp_skip ?_
   (try simp only [Exit.then, Exit.inBlock, ↓reduceIte, Nat.reduceEqDiff])
   refine hK24 _ _ ?_
   refine wp_seq_k (fun K27 hK27 => ?_)
   refine wp_block ?_
   refine wp_seq_k (fun K28 hK28 => ?_)
   refine wp_region_lit ?_
   refine wpList_plain rfl (fun Ko hKo => ?_)
   go_simp
   refine hKo _ _ ?_
   clear hKo Ko
   try simp only [Act.put, nm1, nm2, nm3, i64_w]
   refine wpList_nil ?_
   (try simp only [Exit.then, Exit.inBlock, ↓reduceIte, Nat.reduceEqDiff])
   refine hK28 _ _ ?_
   refine wp_block ?_
   have HL36 := Aside0.mk H
   clear H
   go_loopg [9, 7] k19 (fun kq v9 v7 w' => ∃ (x29 : Int) (x30 : List (Int × Int × Int × Int × Int × Int)) (P31 : Option Addr) (q32 : Nat), v9 = .int .i64 x29 ∧ v7 = .slice P31 x30.length q32 ∧ Aside0 (spec_l07All.l1 K a0 a1 a2 x10 kq x29 x30 = some (r0)) ∧ Aside0 (kq ≤ k19) ∧ Aside0 (Up w w') ∧ Aside0 (w14.heap.size ≤ w'.heap.size) ∧ Own e6 30 w' w.heap.size (.slice P31 x30.length q32) x30)
   case atStart => exact ⟨0, x11, P12, q13, (by first | rfl | simp), (by first | rfl | simp), HL36, ⟨Nat.le_refl _⟩, ⟨hu15.out⟩, ⟨Nat.le_refl _⟩, h18⟩
   case round =>
    rename_i J41 K42 hJ41 hK42
    obtain ⟨x29, x30, P31, q32, rfl, rfl, HL40, hk39, hu34, hz35, h37⟩ := hrel
    obtain ⟨w33, rfl⟩ : ∃ wo : World, wo = wr := ⟨_, rfl⟩
    obtain ⟨k38, rfl⟩ | rfl : (∃ k, gk = k + 1) ∨ gk = 0 := by rcases gk with _ | k; exact .inr rfl; exact .inl ⟨k, rfl⟩
    case inr => exact absurd HL40.out (by simp [spec_l07All.l1])
    have H := HL40.out
    clear HL40
    rw [spec_l07All.l1] at H
    refine wp_seq_k (fun K43 hK43 => ?_)
    refine wp_seq_k (fun K44 hK44 => ?_)
    refine wp_region_lit ?_
    refine wpList_plain rfl (fun Ko hKo => ?_)
    go_simp
    refine hKo _ _ ?_
    clear hKo Ko
    try simp only [Act.put, nm1, nm2, nm3, i64_w]
    refine wpList_plain rfl (fun Ko hKo => ?_)
    go_simp
    refine hKo _ _ ?_
    clear hKo Ko
    try simp only [Act.put, nm1, nm2, nm3, i64_w]
    refine wpList_plain rfl (fun Ko hKo => ?_)
    go_simp
    refine hKo _ _ ?_
    clear hKo Ko
    try simp only [Act.put, nm1, nm2, nm3, i64_w]
    refine wpList_nil ?_
    (try simp only [Exit.then, Exit.inBlock, ↓reduceIte, Nat.reduceEqDiff])
    refine hK44 _ _ ?_
    by_cases c45 : (decide (x29 < a0)) = true
    ·
     rw [if_pos c45] at H
     try simp only [c45, Bool.not_true, Bool.not_false]
     refine wp_cond_true rfl ?_
     refine wp_skip ?_
     (try simp only [Exit.then, Exit.inBlock, ↓reduceIte, Nat.reduceEqDiff])
     refine hK43 _ _ ?_
     refine wp_seq_k (fun K46 hK46 => ?_)
     refine wp_block ?_
     refine wp_seq_k (fun K47 hK47 => ?_)
     refine wp_region_lit ?_
     refine wpList_plain rfl (fun Ko hKo => ?_)
     go_simp
     refine hKo _ _ ?_
     clear hKo Ko
     try simp only [Act.put, nm1, nm2, nm3, i64_w]
     refine wpList_plain rfl (fun Ko hKo => ?_)
     go_simp
     refine hKo _ _ ?_
     clear hKo Ko
     try simp only [Act.put, nm1, nm2, nm3, i64_w]
     refine wpList_plain rfl (fun Ko hKo => ?_)
     go_simp
     refine hKo _ _ ?_
     clear hKo Ko
     try simp only [Act.put, nm1, nm2, nm3, i64_w]
     refine wpList_plain rfl (fun Ko hKo => ?_)
     go_simp
     refine hKo _ _ ?_
     clear hKo Ko
     try simp only [Act.put, nm1, nm2, nm3, i64_w]
     refine wpList_plain rfl (fun Ko hKo => ?_)
     go_simp
     refine hKo _ _ ?_
     clear hKo Ko
     try simp only [Act.put, nm1, nm2, nm3, i64_w]
     refine wpList_plain rfl (fun Ko hKo => ?_)
     go_simp
     refine hKo _ _ ?_
     clear hKo Ko
     try simp only [Act.put, nm1, nm2, nm3, i64_w]
     refine wpList_plain rfl (fun Ko hKo => ?_)
     go_simp
     refine hKo _ _ ?_
     clear hKo Ko
     try simp only [Act.put, nm1, nm2, nm3, i64_w]
     refine wpList_plain rfl (fun Ko hKo => ?_)
     go_simp
     refine hKo _ _ ?_
     clear hKo Ko
     try simp only [Act.put, nm1, nm2, nm3, i64_w]
     refine wpList_nil ?_
     (try simp only [Exit.then, Exit.inBlock, ↓reduceIte, Nat.reduceEqDiff])
     refine hK47 _ _ ?_
     refine wp_seq_k (fun K48 hK48 => ?_)
     refine wp_seq_k (fun K49 hK49 => ?_)
     refine wp_region_lit ?_
     refine wpList_plain rfl (fun Ko hKo => ?_)
     go_simp
     refine hKo _ _ ?_
     clear hKo Ko
     try simp only [Act.put, nm1, nm2, nm3, i64_w]
     refine wpList_nil ?_
     (try simp only [Exit.then, Exit.inBlock, ↓reduceIte, Nat.reduceEqDiff])
     refine hK49 _ _ ?_
     refine wp_block ?_
     refine wp_seq_k (fun K50 hK50 => ?_)
     refine wp_region_lit ?_
     refine wpList_plain rfl (fun Ko hKo => ?_)
     go_simp
     refine hKo _ _ ?_
     clear hKo Ko
     try simp only [Act.put, nm1, nm2, nm3, i64_w]
     refine wpList_plain rfl (fun Ko hKo => ?_)
     go_simp
     refine hKo _ _ ?_
     clear hKo Ko
     try simp only [Act.put, nm1, nm2, nm3, i64_w]
     refine wpList_nil ?_
     (try simp only [Exit.then, Exit.inBlock, ↓reduceIte, Nat.reduceEqDiff])
     refine hK50 _ _ ?_
     by_cases c51 : (a1 == 0) = true
     ·
      rw [if_pos c51] at H
      have c51n : (a1 != 0) = false := by rw [bne, c51]; rfl
      replace H := Option.bind_eq_some_iff.mp H
      obtain ⟨t53, A54, H⟩ := H
      replace A54 := Aside0.mk A54
      try dsimp only at H
      replace H := Option.bind_eq_some_iff.mp H
      obtain ⟨t57, A58, H⟩ := H
      replace A58 := Aside0.mk A58
      try dsimp only at H
      replace H := Option.bind_eq_some_iff.mp H
      obtain ⟨t68, A69, H⟩ := H
      replace A69 := Aside0.mk A69
      try dsimp only at H
      try simp only [c51, c51n, Bool.not_true, Bool.not_false]
      refine wp_cond_true rfl ?_
      refine wp_region_lit ?_
      refine wpList_plain rfl (fun Ko hKo => ?_)
      go_simp
      refine hKo _ _ ?_
      clear hKo Ko
      try simp only [Act.put, nm1, nm2, nm3, i64_w]
      refine wpList_plain rfl (fun Ko hKo => ?_)
      go_simp
      refine hKo _ _ ?_
      clear hKo Ko
      try simp only [Act.put, nm1, nm2, nm3, i64_w]
      refine wpList_plain rfl (fun Ko hKo => ?_)
      go_simp
      refine hKo _ _ ?_
      clear hKo Ko
      try simp only [Act.put, nm1, nm2, nm3, i64_w]
      refine wpList_plain rfl (fun Ko hKo => ?_)
      go_simp
      refine hKo _ _ ?_
      clear hKo Ko
      try simp only [Act.put, nm1, nm2, nm3, i64_w]
      refine wpList_plain rfl (fun Ko hKo => ?_)
      go_simp
      refine hKo _ _ ?_
      clear hKo Ko
      try simp only [Act.put, nm1, nm2, nm3, i64_w]
      refine wpList_nil ?_
      (try simp only [Exit.then, Exit.inBlock, ↓reduceIte, Nat.reduceEqDiff])
      refine hK48 _ _ ?_
      refine wp_seq_k (fun K52 hK52 => ?_)
      refine wp_region_lit ?_
      refine wpList_plain rfl (fun Ko hKo => ?_)
      go_simp
      refine hKo _ _ ?_
      clear hKo Ko
      try simp only [Act.put, nm1, nm2, nm3, i64_w]
      refine wpList_plain rfl (fun Ko hKo => ?_)
      go_simp
      refine hKo _ _ ?_
      clear hKo Ko
      try simp only [Act.put, nm1, nm2, nm3, i64_w]
      refine wpList_plain rfl (fun Ko hKo => ?_)
      go_simp
      refine hKo _ _ ?_
      clear hKo Ko
      try simp only [Act.put, nm1, nm2, nm3, i64_w]
      refine step_call (wanted_none rfl) (by first | (go_simp; done) | (go_simp; rfl)) (spec_l01Mod.calls K (wrap64 ((wrap64 (-a2)) * x29)) a0 t53 w33  A54.out) ?_
      rintro e w55 ⟨rfl, hu⟩
      have hu56 := Aside0.mk hu
      clear hu
      refine ⟨_, rfl, ?_⟩
      simp only [Act.put, nm1, nm2, nm3, i64_w]
      refine wpList_plain rfl (fun Ko hKo => ?_)
      go_simp
      refine hKo _ _ ?_
      clear hKo Ko
      try simp only [Act.put, nm1, nm2, nm3, i64_w]
      refine wpList_plain rfl (fun Ko hKo => ?_)
      go_simp
      refine hKo _ _ ?_
      clear hKo Ko
      try simp only [Act.put, nm1, nm2, nm3, i64_w]
      refine wpList_plain rfl (fun Ko hKo => ?_)
      go_simp
      refine hKo _ _ ?_
      clear hKo Ko
      try simp only [Act.put, nm1, nm2, nm3, i64_w]
      refine step_call (wanted_none rfl) (by first | (go_simp; done) | (go_simp; rfl)) (spec_l01Mod.calls K (wrap64 (a2 * x10)) a0 t57 w55  A58.out) ?_
      rintro e w59 ⟨rfl, hu⟩
      have hu60 := Aside0.mk hu
      clear hu
      refine ⟨_, rfl, ?_⟩
      simp only [Act.put, nm1, nm2, nm3, i64_w]
      refine wpList_plain rfl (fun Ko hKo => ?_)
      go_simp
      refine hKo _ _ ?_
      clear hKo Ko
      try simp only [Act.put, nm1, nm2, nm3, i64_w]
      refine wpList_plain rfl (fun Ko hKo => ?_)
      go_simp
      refine hKo _ _ ?_
      clear hKo Ko
      try simp only [Act.put, nm1, nm2, nm3, i64_w]
      refine step_new (cs := [.int .i64 0, .int .i64 0, .int .i64 0, .int .i64 0, .int .i64 0, .int .i64 0]) (T := 30) (f := fun b => .pointer (some ⟨b, 0, none⟩)) rfl (by first | (go_simp; done) | (go_simp; rfl)) ?_
      intro b61 w62 hu lb hb61
      simp only [Act.put, nm1, nm2, nm3, i64_w]
      have lbb61 := Aside0.mk lb
      have ltb61 := Aside0.mk hb61.lt
      clear lb
      have hu63 := Aside0.mk hu
      clear hu
      have hB0 := hb61
      have cl0 := hB0.cell (o := 0) rfl
      have fr0 := hB0.free 0
      have cl1 := hB0.cell (o := 1) rfl
      have fr1 := hB0.free 1
      have cl2 := hB0.cell (o := 2) rfl
      have fr2 := hB0.free 2
      have cl3 := hB0.cell (o := 3) rfl
      have fr3 := hB0.free 3
      have cl4 := hB0.cell (o := 4) rfl
      have fr4 := hB0.free 4
      have cl5 := hB0.cell (o := 5) rfl
      have fr5 := hB0.free 5
      refine step_store (b := b61) (cs' := [.int .i64 x10, .int .i64 t53, .int .i64 x29, .int .i64 t57, .int .i64 0, .int .i64 0]) (T := 30) (W' := ((((((w62.setCell ⟨b61, 0, none⟩ (.int .i64 x10)).setCell ⟨b61, 1, none⟩ (.int .i64 t53)).setCell ⟨b61, 2, none⟩ (.int .i64 x29)).setCell ⟨b61, 3, none⟩ (.int .i64 t57)).setCell ⟨b61, 4, none⟩ (.int .i64 0)).setCell ⟨b61, 5, none⟩ (.int .i64 0))) rfl rfl (by first | (go_simp; done) | (go_simp; rfl)) (((((((Sto.refl _ _).setCell 0 _).setCell 1 _).setCell 2 _).setCell 3 _).setCell 4 _).setCell 5 _) (((((((hB0).setCell 0 _).setCell 1 _).setCell 2 _).setCell 3 _).setCell 4 _).setCell 5 _) ?_
      clear hB0 cl0 fr0 cl1 fr1 cl2 fr2 cl3 fr3 cl4 fr4 cl5 fr5
      intro w64 hs hb66
      have hs65 := Aside0.mk hs
      clear hs
      refine wpList_nil ?_
      (try simp only [Exit.then, Exit.inBlock, ↓reduceIte, Nat.reduceEqDiff])
      refine hK52 _ _ ?_
      refine wp_seq_k (fun K67 hK67 => ?_)
      refine wp_region_lit ?_
      refine wpList_plain rfl (fun Ko hKo => ?_)
      go_simp
      refine hKo _ _ ?_
      clear hKo Ko
      try simp only [Act.put, nm1, nm2, nm3, i64_w]
      refine wpList_plain rfl (fun Ko hKo => ?_)
      go_simp
      refine hKo _ _ ?_
      clear hKo Ko
      try simp only [Act.put, nm1, nm2, nm3, i64_w]
      have cl0 := hb66.cell (o := 0) rfl
      have cl1 := hb66.cell (o := 1) rfl
      have cl2 := hb66.cell (o := 2) rfl
      have cl3 := hb66.cell (o := 3) rfl
      have cl4 := hb66.cell (o := 4) rfl
      have cl5 := hb66.cell (o := 5) rfl
      refine wpList_plain rfl (fun Ko hKo => ?_)
      go_simp
      refine hKo _ _ ?_
      clear hKo Ko
      clear cl0 cl1 cl2 cl3 cl4 cl5
      try simp only [Act.put, nm1, nm2, nm3, i64_w]
      refine step_call (wanted_none rfl) (by first | (go_simp; done) | (go_simp; rfl)) (spec_l07Good.calls K a0 a1 x10 t53 x29 t57 0 0 t68 w64  A69.out) ?_
      rintro e w70 ⟨rfl, hu⟩
      have hu71 := Aside0.mk hu
      clear hu
      refine ⟨_, rfl, ?_⟩
      simp only [Act.put, nm1, nm2, nm3, i64_w]
      refine wpList_plain rfl (fun Ko hKo => ?_)
      go_simp
      refine hKo _ _ ?_
      clear hKo Ko
      try simp only [Act.put, nm1, nm2, nm3, i64_w]
      have hm73 := Aside0.mk (((((hu34.out.trans hu56.out).trans hu60.out).trans hu63.out).sto (Nat.le_trans ((Nat.le_trans ((Nat.le_trans ((Nat.le_trans ((Nat.le_trans (hu5.out.size) hz16.out)) hz35.out)) hu56.out.size)) hu60.out.size)) lbb61.out) hs65.out).trans hu71.out)
      have hm74 := Aside0.mk (Nat.le_trans ((Nat.le_trans ((Nat.le_trans ((Nat.le_trans ((Nat.le_trans ((Nat.le_trans ((Nat.le_trans (hu5.out.size) hz16.out)) hz35.out)) hu56.out.size)) hu60.out.size)) hu63.out.size)) (Nat.le_of_eq hs65.out.size.symm))) hu71.out.size)
      have hm75 := Aside0.mk (Nat.le_trans ((Nat.le_trans ((Nat.le_trans ((Nat.le_trans ((Nat.le_trans ((Nat.le_trans (Nat.le_refl _) hz35.out)) hu56.out.size)) hu60.out.size)) hu63.out.size)) (Nat.le_of_eq hs65.out.size.symm))) hu71.out.size)
      by_cases c72 : (t68) = true
      ·
       rw [if_pos c72] at H
       subst c72
       replace H := Option.bind_eq_some_iff.mp H
       obtain ⟨t76, A77, H⟩ := H
       replace A77 := Aside0.mk A77
       try dsimp only at H
       replace H := Option.bind_eq_some_iff.mp H
       obtain ⟨t80, A81, H⟩ := H
       replace A81 := Aside0.mk A81
       try dsimp only at H
       refine wpList_step (fun Ko hKo => ?_)
       go_simp
       refine hKo _ _ ?_
       clear hKo Ko
       try simp only [Act.put, nm1, nm2, nm3, i64_w]
       have cl0 := (hb66.up hu71.out).cell (o := 0) rfl
       have cl1 := (hb66.up hu71.out).cell (o := 1) rfl
       have cl2 := (hb66.up hu71.out).cell (o := 2) rfl
       have cl3 := (hb66.up hu71.out).cell (o := 3) rfl
       have cl4 := (hb66.up hu71.out).cell (o := 4) rfl
       have cl5 := (hb66.up hu71.out).cell (o := 5) rfl
       refine wpList_step (fun Ko hKo => ?_)
       go_simp
       refine hKo _ _ ?_
       clear hKo Ko
       clear cl0 cl1 cl2 cl3 cl4 cl5
       try simp only [Act.put, nm1, nm2, nm3, i64_w]
       refine step_call rfl (by first | (go_simp; done) | (go_simp; rfl)) (spec_l07Sign.calls K a0 x10 t53 x29 t57 0 0 t76 w70  A77.out) ?_
       rintro e w78 ⟨rfl, hu⟩
       have hu79 := Aside0.mk hu
       clear hu
       refine ⟨_, rfl, ?_⟩
       simp only [Act.put, nm1, nm2, nm3, i64_w]
       refine wpList_step (fun Ko hKo => ?_)
       go_simp
       refine hKo _ _ ?_
       clear hKo Ko
       try simp only [Act.put, nm1, nm2, nm3, i64_w]
       refine wpList_step (fun Ko hKo => ?_)
       go_simp
       refine hKo _ _ ?_
       clear hKo Ko
       try simp only [Act.put, nm1, nm2, nm3, i64_w]
       refine step_call rfl (by first | (go_simp; done) | (go_simp; rfl)) (spec_l01Mod.calls K a2 a0 t80 w78  A81.out) ?_
       rintro e w82 ⟨rfl, hu⟩
       have hu83 := Aside0.mk hu
       clear hu
       refine ⟨_, rfl, ?_⟩
       simp only [Act.put, nm1, nm2, nm3, i64_w]
       refine wpList_step (fun Ko hKo => ?_)
       go_simp
       refine hKo _ _ ?_
       clear hKo Ko
       try simp only [Act.put, nm1, nm2, nm3, i64_w]
       refine wpList_plain rfl (fun Ko hKo => ?_)
       go_simp
       refine hKo _ _ ?_
       clear hKo Ko
       try simp only [Act.put, nm1, nm2, nm3, i64_w]
       refine wpList_nil ?_
       (try simp only [Exit.then, Exit.inBlock, ↓reduceIte, Nat.reduceEqDiff])
       refine hK67 _ _ ?_
       by_cases c84 : (t76 == t80) = true
       ·
        rw [if_pos c84] at H
        have c84n : (t76 != t80) = false := by rw [bne, c84]; rfl
        replace H := Option.bind_eq_some_iff.mp H
        obtain ⟨t85, A88, H⟩ := H
        replace A88 := Aside0.mk A88
        try dsimp only at H
        have HL91 := Aside0.mk H
        clear H
        try simp only [c84, c84n, Bool.not_true, Bool.not_false]
        refine wp_cond_true rfl ?_
        refine wp_region_lit ?_
        refine wpList_plain rfl (fun Ko hKo => ?_)
        go_simp
        refine hKo _ _ ?_
        clear hKo Ko
        try simp only [Act.put, nm1, nm2, nm3, i64_w]
        have cl0 := (hb66.up ((hu71.out.trans hu79.out).trans hu83.out)).cell (o := 0) rfl
        have cl1 := (hb66.up ((hu71.out.trans hu79.out).trans hu83.out)).cell (o := 1) rfl
        have cl2 := (hb66.up ((hu71.out.trans hu79.out).trans hu83.out)).cell (o := 2) rfl
        have cl3 := (hb66.up ((hu71.out.trans hu79.out).trans hu83.out)).cell (o := 3) rfl
        have cl4 := (hb66.up ((hu71.out.trans hu79.out).trans hu83.out)).cell (o := 4) rfl
        have cl5 := (hb66.up ((hu71.out.trans hu79.out).trans hu83.out)).cell (o := 5) rfl
        refine wpList_plain rfl (fun Ko hKo => ?_)
        go_simp
        refine hKo _ _ ?_
        clear hKo Ko
        clear cl0 cl1 cl2 cl3 cl4 cl5
        try simp only [Act.put, nm1, nm2, nm3, i64_w]
        refine step_call (wanted_none rfl) (by first | (go_simp; done) | (go_simp; rfl)) (spec_l07Put.calls K P31 q32 x30 x10 t53 x29 t57 0 0 t85 w82 ((h37.up ((((((hu56.out.trans hu60.out).trans hu63.out).sto (Nat.le_trans ((Nat.le_trans (hu56.out.size) hu60.out.size)) lbb61.out) hs65.out).trans hu71.out).trans hu79.out).trans hu83.out)).rd) (Own.cap (h37.up ((((((hu56.out.trans hu60.out).trans hu63.out).sto (Nat.le_trans ((Nat.le_trans (hu56.out.size) hu60.out.size)) lbb61.out) hs65.out).trans hu71.out).trans hu79.out).trans hu83.out))) A88.out) ?_
        rintro e w89 ⟨P86, q87, rfl, ht85, hu⟩
        have hu90 := Aside0.mk hu
        clear hu
        refine ⟨_, rfl, ?_⟩
        simp only [Act.put, nm1, nm2, nm3, i64_w]
        refine wpList_plain rfl (fun Ko hKo => ?_)
        go_simp
        refine hKo _ _ ?_
        clear hKo Ko
        try simp only [Act.put, nm1, nm2, nm3, i64_w]
        refine wpList_nil ?_
        (try simp only [Exit.then, Exit.inBlock, ↓reduceIte, Nat.reduceEqDiff])
        refine hK46 _ _ ?_
        refine wp_region_lit ?_
        refine wpList_plain rfl (fun Ko hKo => ?_)
        go_simp
        refine hKo _ _ ?_
        clear hKo Ko
        try simp only [Act.put, nm1, nm2, nm3, i64_w]
        refine wpList_plain rfl (fun Ko hKo => ?_)
        go_simp
        refine hKo _ _ ?_
        clear hKo Ko
        try simp only [Act.put, nm1, nm2, nm3, i64_w]
        refine wpList_plain rfl (fun Ko hKo => ?_)
        go_simp
        refine hKo _ _ ?_
        clear hKo Ko
        try simp only [Act.put, nm1, nm2, nm3, i64_w]
        refine wpList_nil ?_
        (try simp only [Exit.then, Exit.inBlock, ↓reduceIte, Nat.reduceEqDiff])
        refine hK42 _ _ ?_
        go_roundg k38
        case measure => exact Nat.lt_succ_self _
        case rel => exact ⟨wrap64 (x29 + 1), t85, P86, q87, (by first | rfl | simp), (by first | rfl | simp), HL91, ⟨by have := hk20.out; have := hk39.out; omega⟩, ⟨(((hm73.out.trans hu79.out).trans hu83.out).trans hu90.out)⟩, ⟨(Nat.le_trans ((Nat.le_trans ((Nat.le_trans (hm75.out) hu79.out.size)) hu83.out.size)) hu90.out.size)⟩, (ht85.lower ((Nat.le_trans ((Nat.le_trans (hm74.out) hu79.out.size)) hu83.out.size)))⟩
       ·
        rw [if_neg c84] at H
        replace c84 := Bool.eq_false_iff.mpr c84
        have c84n : (t76 != t80) = true := by rw [bne, c84]; rfl
        have c84p : ¬ t76 = t80 := fun e => by simp [e] at c84
        have HL92 := Aside0.mk H
        clear H
        try simp only [c84, c84n, Bool.not_true, Bool.not_false]
        refine wp_cond_false rfl ?_
        refine wp_skip ?_
        (try simp only [Exit.then, Exit.inBlock, ↓reduceIte, Nat.reduceEqDiff])
        refine hK46 _ _ ?_
        refine wp_region_lit ?_
        refine wpList_plain rfl (fun Ko hKo => ?_)
        go_simp
        refine hKo _ _ ?_
        clear hKo Ko
        try simp only [Act.put, nm1, nm2, nm3, i64_w]
        refine wpList_plain rfl (fun Ko hKo => ?_)
        go_simp
        refine hKo _ _ ?_
        clear hKo Ko
        try simp only [Act.put, nm1, nm2, nm3, i64_w]
        refine wpList_plain rfl (fun Ko hKo => ?_)
        go_simp
        refine hKo _ _ ?_
        clear hKo Ko
        try simp only [Act.put, nm1, nm2, nm3, i64_w]
        refine wpList_nil ?_
        (try simp only [Exit.then, Exit.inBlock, ↓reduceIte, Nat.reduceEqDiff])
        refine hK42 _ _ ?_
        go_roundg k38
        case measure => exact Nat.lt_succ_self _
        case rel => exact ⟨wrap64 (x29 + 1), x30, P31, q32, (by first | rfl | simp), (by first | rfl | simp), HL92, ⟨by have := hk20.out; have := hk39.out; omega⟩, ⟨((hm73.out.trans hu79.out).trans hu83.out)⟩, ⟨(Nat.le_trans ((Nat.le_trans (hm75.out) hu79.out.size)) hu83.out.size)⟩, (h37.up ((((((hu56.out.trans hu60.out).trans hu63.out).sto (Nat.le_trans ((Nat.le_trans (hu56.out.size) hu60.out.size)) lbb61.out) hs65.out).trans hu71.out).trans hu79.out).trans hu83.out))⟩
      ·
       rw [if_neg c72] at H
       replace c72 := Bool.eq_false_iff.mpr c72
       subst c72
       have HL93 := Aside0.mk H
       clear H
       refine step_no rfl ?_
       simp only [Act.put, nm1, nm2, nm3, i64_w]
       refine step_no rfl ?_
       simp only [Act.put, nm1, nm2, nm3, i64_w]
       refine step_no rfl ?_
       simp only [Act.put, nm1, nm2, nm3, i64_w]
       refine step_no rfl ?_
       simp only [Act.put, nm1, nm2, nm3, i64_w]
       refine step_no rfl ?_
       simp only [Act.put, nm1, nm2, nm3, i64_w]
       refine step_no rfl ?_
       simp only [Act.put, nm1, nm2, nm3, i64_w]
       refine step_no rfl ?_
       simp only [Act.put, nm1, nm2, nm3, i64_w]
       refine wpList_plain rfl (fun Ko hKo => ?_)
       go_simp
       refine hKo _ _ ?_
       clear hKo Ko
       try simp only [Act.put, nm1, nm2, nm3, i64_w]
       refine wpList_nil ?_
       (try simp only [Exit.then, Exit.inBlock, ↓reduceIte, Nat.reduceEqDiff])
       refine hK67 _ _ ?_
       refine wp_cond_false rfl ?_
       refine wp_skip ?_
       (try simp only [Exit.then, Exit.inBlock, ↓reduceIte, Nat.reduceEqDiff])
       refine hK46 _ _ ?_
       refine wp_region_lit ?_
       refine wpList_plain rfl (fun Ko hKo => ?_)
       go_simp
       refine hKo _ _ ?_
       clear hKo Ko
       try simp only [Act.put, nm1, nm2, nm3, i64_w]
       refine wpList_plain rfl (fun Ko hKo => ?_)
       go_simp
       refine hKo _ _ ?_
       clear hKo Ko
       try simp only [Act.put, nm1, nm2, nm3, i64_w]
       refine wpList_plain rfl (fun Ko hKo => ?_)
       go_simp
       refine hKo _ _ ?_
       clear hKo Ko
       try simp only [Act.put, nm1, nm2, nm3, i64_w]
       refine wpList_nil ?_
       (try simp only [Exit.then, Exit.inBlock, ↓reduceIte, Nat.reduceEqDiff])
       refine hK42 _ _ ?_
       go_roundg k38
       case measure => exact Nat.lt_succ_self _
       case rel => exact ⟨wrap64 (x29 + 1), x30, P31, q32, (by first | rfl | simp), (by first | rfl | simp), HL93, ⟨by have := hk20.out; have := hk39.out; omega⟩, ⟨hm73.out⟩, ⟨hm75.out⟩, (h37.up ((((hu56.out.trans hu60.out).trans hu63.out).sto (Nat.le_trans ((Nat.le_trans (hu56.out.size) hu60.out.size)) lbb61.out) hs65.out).trans hu71.out))⟩
     ·
      rw [if_neg c51] at H
      replace c51 := Bool.eq_false_iff.mpr c51
      have c51n : (a1 != 0) = true := by rw [bne, c51]; rfl
      have c51p : ¬ a1 = 0 := fun e => by simp [e] at c51
      try simp only [c51, c51n, Bool.not_true, Bool.not_false]
      refine wp_cond_false rfl ?_
      refine wp_seq_k (fun K94 hK94 => ?_)
      refine wp_region_lit ?_
      refine wpList_plain rfl (fun Ko hKo => ?_)
      go_simp
      refine hKo _ _ ?_
      clear hKo Ko
      try simp only [Act.put, nm1, nm2, nm3, i64_w]
      refine wpList_plain rfl (fun Ko hKo => ?_)
      go_simp
      refine hKo _ _ ?_
      clear hKo Ko
      try simp only [Act.put, nm1, nm2, nm3, i64_w]
      refine wpList_nil ?_
      (try simp only [Exit.then, Exit.inBlock, ↓reduceIte, Nat.reduceEqDiff])
      refine hK94 _ _ ?_
      by_cases c95 : (a1 == 2) = true
      ·
       rw [if_pos c95] at H
       have c95n : (a1 != 2) = false := by rw [bne, c95]; rfl
       try simp only [c95, c95n, Bool.not_true, Bool.not_false]
       refine wp_cond_true rfl ?_
       refine wp_seq_k (fun K96 hK96 => ?_)
       refine wp_region_lit ?_
       refine wpList_plain rfl (fun Ko hKo => ?_)
       go_simp
       refine hKo _ _ ?_
       clear hKo Ko
       try simp only [Act.put, nm1, nm2, nm3, i64_w]
       refine wpList_plain rfl (fun Ko hKo => ?_)
       go_simp
       refine hKo _ _ ?_
       clear hKo Ko
       try simp only [Act.put, nm1, nm2, nm3, i64_w]
       refine wpList_nil ?_
       (try simp only [Exit.then, Exit.inBlock, ↓reduceIte, Nat.reduceEqDiff])
       refine hK96 _ _ ?_
       refine wp_seq_k (fun K97 hK97 => ?_)
       refine wp_region_lit ?_
       refine wpList_plain rfl (fun Ko hKo => ?_)
       go_simp
       refine hKo _ _ ?_
       clear hKo Ko
       try simp only [Act.put, nm1, nm2, nm3, i64_w]
       refine wpList_plain rfl (fun Ko hKo => ?_)
       go_simp
       refine hKo _ _ ?_
       clear hKo Ko
       try simp only [Act.put, nm1, nm2, nm3, i64_w]
       refine wpList_nil ?_
       (try simp only [Exit.then, Exit.inBlock, ↓reduceIte, Nat.reduceEqDiff])
       refine hK97 _ _ ?_
       refine wp_seq_k (fun K98 hK98 => ?_)
       refine wp_seq_k (fun K99 hK99 => ?_)
       refine wp_region_lit ?_
       refine wpList_plain rfl (fun Ko hKo => ?_)
       go_simp
       refine hKo _ _ ?_
       clear hKo Ko
       try simp only [Act.put, nm1, nm2, nm3, i64_w]
       refine wpList_plain rfl (fun Ko hKo => ?_)
       go_simp
       refine hKo _ _ ?_
       clear hKo Ko
       try simp only [Act.put, nm1, nm2, nm3, i64_w]
       refine wpList_nil ?_
       (try simp only [Exit.then, Exit.inBlock, ↓reduceIte, Nat.reduceEqDiff])
       refine hK99 _ _ ?_
       by_cases c100 : (x10 == 0) = true
       ·
        rw [if_pos c100] at H
        have c100n : (x10 != 0) = false := by rw [bne, c100]; rfl
        try simp only [c100, c100n, Bool.not_true, Bool.not_false]
        refine wp_cond_false rfl ?_
        refine wp_skip ?_
        (try simp only [Exit.then, Exit.inBlock, ↓reduceIte, Nat.reduceEqDiff])
        refine hK98 _ _ ?_
        refine wp_seq_k (fun K101 hK101 => ?_)
        refine wp_region_lit ?_
        refine wpList_plain rfl (fun Ko hKo => ?_)
        go_simp
        refine hKo _ _ ?_
        clear hKo Ko
        try simp only [Act.put, nm1, nm2, nm3, i64_w]
        refine wpList_plain rfl (fun Ko hKo => ?_)
        go_simp
        refine hKo _ _ ?_
        clear hKo Ko
        try simp only [Act.put, nm1, nm2, nm3, i64_w]
        refine wpList_nil ?_
        (try simp only [Exit.then, Exit.inBlock, ↓reduceIte, Nat.reduceEqDiff])
        refine hK101 _ _ ?_
        by_cases c102 : (x29 == 0) = true
        ·
         rw [if_pos c102] at H
         have c102n : (x29 != 0) = false := by rw [bne, c102]; rfl
         replace H := Option.bind_eq_some_iff.mp H
         obtain ⟨t104, A105, H⟩ := H
         replace A105 := Aside0.mk A105
         try dsimp only at H
         replace H := Option.bind_eq_some_iff.mp H
         obtain ⟨t108, A109, H⟩ := H
         replace A109 := Aside0.mk A109
         try dsimp only at H
         replace H := Option.bind_eq_some_iff.mp H
         obtain ⟨t119, A120, H⟩ := H
         replace A120 := Aside0.mk A120
         try dsimp only at H
         try simp only [c102, c102n, Bool.not_true, Bool.not_false]
         refine wp_cond_false rfl ?_
         refine wp_skip ?_
         (try simp only [Exit.then, Exit.inBlock, ↓reduceIte, Nat.reduceEqDiff])
         refine hK48 _ _ ?_
         refine wp_seq_k (fun K103 hK103 => ?_)
         refine wp_region_lit ?_
         refine wpList_plain rfl (fun Ko hKo => ?_)
         go_simp
         refine hKo _ _ ?_
         clear hKo Ko
         try simp only [Act.put, nm1, nm2, nm3, i64_w]
         refine wpList_plain rfl (fun Ko hKo => ?_)
         go_simp
         refine hKo _ _ ?_
         clear hKo Ko
         try simp only [Act.put, nm1, nm2, nm3, i64_w]
         refine wpList_plain rfl (fun Ko hKo => ?_)
         go_simp
         refine hKo _ _ ?_
         clear hKo Ko
         try simp only [Act.put, nm1, nm2, nm3, i64_w]
         refine step_call (wanted_none rfl) (by first | (go_simp; done) | (go_simp; rfl)) (spec_l01Mod.calls K x29 a0 t104 w33  A105.out) ?_
         rintro e w106 ⟨rfl, hu⟩
         have hu107 := Aside0.mk hu
         clear hu
         refine ⟨_, rfl, ?_⟩
         simp only [Act.put, nm1, nm2, nm3, i64_w]
         refine wpList_plain rfl (fun Ko hKo => ?_)
         go_simp
         refine hKo _ _ ?_
         clear hKo Ko
         try simp only [Act.put, nm1, nm2, nm3, i64_w]
         refine wpList_plain rfl (fun Ko hKo => ?_)
         go_simp
         refine hKo _ _ ?_
         clear hKo Ko
         try simp only [Act.put, nm1, nm2, nm3, i64_w]
         refine wpList_plain rfl (fun Ko hKo => ?_)
         go_simp
         refine hKo _ _ ?_
         clear hKo Ko
         try simp only [Act.put, nm1, nm2, nm3, i64_w]
         refine step_call (wanted_none rfl) (by first | (go_simp; done) | (go_simp; rfl)) (spec_l01Mod.calls K x10 a0 t108 w106  A109.out) ?_
         rintro e w110 ⟨rfl, hu⟩
         have hu111 := Aside0.mk hu
         clear hu
         refine ⟨_, rfl, ?_⟩
         simp only [Act.put, nm1, nm2, nm3, i64_w]
         refine wpList_plain rfl (fun Ko hKo => ?_)
         go_simp
         refine hKo _ _ ?_
         clear hKo Ko
         try simp only [Act.put, nm1, nm2, nm3, i64_w]
         refine wpList_plain rfl (fun Ko hKo => ?_)
         go_simp
         refine hKo _ _ ?_
         clear hKo Ko
         try simp only [Act.put, nm1, nm2, nm3, i64_w]
         refine step_new (cs := [.int .i64 0, .int .i64 0, .int .i64 0, .int .i64 0, .int .i64 0, .int .i64 0]) (T := 30) (f := fun b => .pointer (some ⟨b, 0, none⟩)) rfl (by first | (go_simp; done) | (go_simp; rfl)) ?_
         intro b112 w113 hu lb hb112
         simp only [Act.put, nm1, nm2, nm3, i64_w]
         have lbb112 := Aside0.mk lb
         have ltb112 := Aside0.mk hb112.lt
         clear lb
         have hu114 := Aside0.mk hu
         clear hu
         have hB0 := hb112
         have cl0 := hB0.cell (o := 0) rfl
         have fr0 := hB0.free 0
         have cl1 := hB0.cell (o := 1) rfl
         have fr1 := hB0.free 1
         have cl2 := hB0.cell (o := 2) rfl
         have fr2 := hB0.free 2
         have cl3 := hB0.cell (o := 3) rfl
         have fr3 := hB0.free 3
         have cl4 := hB0.cell (o := 4) rfl
         have fr4 := hB0.free 4
         have cl5 := hB0.cell (o := 5) rfl
         have fr5 := hB0.free 5
         refine step_store (b := b112) (cs' := [.int .i64 x10, .int .i64 t104, .int .i64 x29, .int .i64 t108, .int .i64 0, .int .i64 0]) (T := 30) (W' := ((((((w113.setCell ⟨b112, 0, none⟩ (.int .i64 x10)).setCell ⟨b112, 1, none⟩ (.int .i64 t104)).setCell ⟨b112, 2, none⟩ (.int .i64 x29)).setCell ⟨b112, 3, none⟩ (.int .i64 t108)).setCell ⟨b112, 4, none⟩ (.int .i64 0)).setCell ⟨b112, 5, none⟩ (.int .i64 0))) rfl rfl (by first | (go_simp; done) | (go_simp; rfl)) (((((((Sto.refl _ _).setCell 0 _).setCell 1 _).setCell 2 _).setCell 3 _).setCell 4 _).setCell 5 _) (((((((hB0).setCell 0 _).setCell 1 _).setCell 2 _).setCell 3 _).setCell 4 _).setCell 5 _) ?_
         clear hB0 cl0 fr0 cl1 fr1 cl2 fr2 cl3 fr3 cl4 fr4 cl5 fr5
         intro w115 hs hb117
         have hs116 := Aside0.mk hs
         clear hs
         refine wpList_nil ?_
         (try simp only [Exit.then, Exit.inBlock, ↓reduceIte, Nat.reduceEqDiff])
         refine hK103 _ _ ?_
         refine wp_seq_k (fun K118 hK118 => ?_)
         refine wp_region_lit ?_
         refine wpList_plain rfl (fun Ko hKo => ?_)
         go_simp
         refine hKo _ _ ?_
         clear hKo Ko
         try simp only [Act.put, nm1, nm2, nm3, i64_w]
         refine wpList_plain rfl (fun Ko hKo => ?_)
         go_simp
         refine hKo _ _ ?_
         clear hKo Ko
         try simp only [Act.put, nm1, nm2, nm3, i64_w]
         have cl0 := hb117.cell (o := 0) rfl
         have cl1 := hb117.cell (o := 1) rfl
         have cl2 := hb117.cell (o := 2) rfl
         have cl3 := hb117.cell (o := 3) rfl
         have cl4 := hb117.cell (o := 4) rfl
         have cl5 := hb117.cell (o := 5) rfl
         refine wpList_plain rfl (fun Ko hKo => ?_)
         go_simp
         refine hKo _ _ ?_
         clear hKo Ko
         clear cl0 cl1 cl2 cl3 cl4 cl5
         try simp only [Act.put, nm1, nm2, nm3, i64_w]
         refine step_call (wanted_none rfl) (by first | (go_simp; done) | (go_simp; rfl)) (spec_l07Good.calls K a0 a1 x10 t104 x29 t108 0 0 t119 w115  A120.out) ?_
         rintro e w121 ⟨rfl, hu⟩
         have hu122 := Aside0.mk hu
         clear hu
         refine ⟨_, rfl, ?_⟩
         simp only [Act.put, nm1, nm2, nm3, i64_w]
         refine wpList_plain rfl (fun Ko hKo => ?_)
         go_simp
         refine hKo _ _ ?_
         clear hKo Ko
         try simp only [Act.put, nm1, nm2, nm3, i64_w]
         have hm124 := Aside0.mk (((((hu34.out.trans hu107.out).trans hu111.out).trans hu114.out).sto (Nat.le_trans ((Nat.le_trans ((Nat.le_trans ((Nat.le_trans ((Nat.le_trans (hu5.out.size) hz16.out)) hz35.out)) hu107.out.size)) hu111.out.size)) lbb112.out) hs116.out).trans hu122.out)
         have hm125 := Aside0.mk (Nat.le_trans ((Nat.le_trans ((Nat.le_trans ((Nat.le_trans ((Nat.le_trans ((Nat.le_trans ((Nat.le_trans (hu5.out.size) hz16.out)) hz35.out)) hu107.out.size)) hu111.out.size)) hu114.out.size)) (Nat.le_of_eq hs116.out.size.symm))) hu122.out.size)
         have hm126 := Aside0.mk (Nat.le_trans ((Nat.le_trans ((Nat.le_trans ((Nat.le_trans ((Nat.le_trans ((Nat.le_trans (Nat.le_refl _) hz35.out)) hu107.out.size)) hu111.out.size)) hu114.out.size)) (Nat.le_of_eq hs116.out.size.symm))) hu122.out.size)
         by_cases c123 : (t119) = true
         ·
          rw [if_pos c123] at H
          subst c123
          replace H := Option.bind_eq_some_iff.mp H
          obtain ⟨t127, A128, H⟩ := H
          replace A128 := Aside0.mk A128
          try dsimp only at H
          replace H := Option.bind_eq_some_iff.mp H
          obtain ⟨t131, A132, H⟩ := H
          replace A132 := Aside0.mk A132
          try dsimp only at H
          refine wpList_step (fun Ko hKo => ?_)
          go_simp
          refine hKo _ _ ?_
          clear hKo Ko
          try simp only [Act.put, nm1, nm2, nm3, i64_w]
          have cl0 := (hb117.up hu122.out).cell (o := 0) rfl
          have cl1 := (hb117.up hu122.out).cell (o := 1) rfl
          have cl2 := (hb117.up hu122.out).cell (o := 2) rfl
          have cl3 := (hb117.up hu122.out).cell (o := 3) rfl
          have cl4 := (hb117.up hu122.out).cell (o := 4) rfl
          have cl5 := (hb117.up hu122.out).cell (o := 5) rfl
          refine wpList_step (fun Ko hKo => ?_)
          go_simp
          refine hKo _ _ ?_
          clear hKo Ko
          clear cl0 cl1 cl2 cl3 cl4 cl5
          try simp only [Act.put, nm1, nm2, nm3, i64_w]
          refine step_call rfl (by first | (go_simp; done) | (go_simp; rfl)) (spec_l07Sign.calls K a0 x10 t104 x29 t108 0 0 t127 w121  A128.out) ?_
          rintro e w129 ⟨rfl, hu⟩
          have hu130 := Aside0.mk hu
          clear hu
          refine ⟨_, rfl, ?_⟩
          simp only [Act.put, nm1, nm2, nm3, i64_w]
          refine wpList_step (fun Ko hKo => ?_)
          go_simp
          refine hKo _ _ ?_
          clear hKo Ko
          try simp only [Act.put, nm1, nm2, nm3, i64_w]
          refine wpList_step (fun Ko hKo => ?_)
          go_simp
          refine hKo _ _ ?_
          clear hKo Ko
          try simp only [Act.put, nm1, nm2, nm3, i64_w]
          refine step_call rfl (by first | (go_simp; done) | (go_simp; rfl)) (spec_l01Mod.calls K a2 a0 t131 w129  A132.out) ?_
          rintro e w133 ⟨rfl, hu⟩
          have hu134 := Aside0.mk hu
          clear hu
          refine ⟨_, rfl, ?_⟩
          simp only [Act.put, nm1, nm2, nm3, i64_w]
          refine wpList_step (fun Ko hKo => ?_)
          go_simp
          refine hKo _ _ ?_
          clear hKo Ko
          try simp only [Act.put, nm1, nm2, nm3, i64_w]
          refine wpList_plain rfl (fun Ko hKo => ?_)
          go_simp
          refine hKo _ _ ?_
          clear hKo Ko
          try simp only [Act.put, nm1, nm2, nm3, i64_w]
          refine wpList_nil ?_
          (try simp only [Exit.then, Exit.inBlock, ↓reduceIte, Nat.reduceEqDiff])
          refine hK118 _ _ ?_
          by_cases c135 : (t127 == t131) = true
          ·
           rw [if_pos c135] at H
           have c135n : (t127 != t131) = false := by rw [bne, c135]; rfl
           replace H := Option.bind_eq_some_iff.mp H
           obtain ⟨t136, A139, H⟩ := H
           replace A139 := Aside0.mk A139
           try dsimp only at H
           have HL142 := Aside0.mk H
           clear H
           try simp only [c135, c135n, Bool.not_true, Bool.not_false]
           refine wp_cond_true rfl ?_
           refine wp_region_lit ?_
           refine wpList_plain rfl (fun Ko hKo => ?_)
           go_simp
           refine hKo _ _ ?_
           clear hKo Ko
           try simp only [Act.put, nm1, nm2, nm3, i64_w]
           have cl0 := (hb117.up ((hu122.out.trans hu130.out).trans hu134.out)).cell (o := 0) rfl
           have cl1 := (hb117.up ((hu122.out.trans hu130.out).trans hu134.out)).cell (o := 1) rfl
           have cl2 := (hb117.up ((hu122.out.trans hu130.out).trans hu134.out)).cell (o := 2) rfl
           have cl3 := (hb117.up ((hu122.out.trans hu130.out).trans hu134.out)).cell (o := 3) rfl
           have cl4 := (hb117.up ((hu122.out.trans hu130.out).trans hu134.out)).cell (o := 4) rfl
           have cl5 := (hb117.up ((hu122.out.trans hu130.out).trans hu134.out)).cell (o := 5) rfl
           refine wpList_plain rfl (fun Ko hKo => ?_)
           go_simp
           refine hKo _ _ ?_
           clear hKo Ko
           clear cl0 cl1 cl2 cl3 cl4 cl5
           try simp only [Act.put, nm1, nm2, nm3, i64_w]
           refine step_call (wanted_none rfl) (by first | (go_simp; done) | (go_simp; rfl)) (spec_l07Put.calls K P31 q32 x30 x10 t104 x29 t108 0 0 t136 w133 ((h37.up ((((((hu107.out.trans hu111.out).trans hu114.out).sto (Nat.le_trans ((Nat.le_trans (hu107.out.size) hu111.out.size)) lbb112.out) hs116.out).trans hu122.out).trans hu130.out).trans hu134.out)).rd) (Own.cap (h37.up ((((((hu107.out.trans hu111.out).trans hu114.out).sto (Nat.le_trans ((Nat.le_trans (hu107.out.size) hu111.out.size)) lbb112.out) hs116.out).trans hu122.out).trans hu130.out).trans hu134.out))) A139.out) ?_
           rintro e w140 ⟨P137, q138, rfl, ht136, hu⟩
           have hu141 := Aside0.mk hu
           clear hu
           refine ⟨_, rfl, ?_⟩
           simp only [Act.put, nm1, nm2, nm3, i64_w]
           refine wpList_plain rfl (fun Ko hKo => ?_)
           go_simp
           refine hKo _ _ ?_
           clear hKo Ko
           try simp only [Act.put, nm1, nm2, nm3, i64_w]
           refine wpList_nil ?_
           (try simp only [Exit.then, Exit.inBlock, ↓reduceIte, Nat.reduceEqDiff])
           refine hK46 _ _ ?_
           refine wp_region_lit ?_
           refine wpList_plain rfl (fun Ko hKo => ?_)
           go_simp
           refine hKo _ _ ?_
           clear hKo Ko
           try simp only [Act.put, nm1, nm2, nm3, i64_w]
           refine wpList_plain rfl (fun Ko hKo => ?_)
           go_simp
           refine hKo _ _ ?_
           clear hKo Ko
           try simp only [Act.put, nm1, nm2, nm3, i64_w]
           refine wpList_plain rfl (fun Ko hKo => ?_)
           go_simp
           refine hKo _ _ ?_
           clear hKo Ko
           try simp only [Act.put, nm1, nm2, nm3, i64_w]
           refine wpList_nil ?_
           (try simp only [Exit.then, Exit.inBlock, ↓reduceIte, Nat.reduceEqDiff])
           refine hK42 _ _ ?_
           go_roundg k38
           case measure => exact Nat.lt_succ_self _
           case rel => exact ⟨wrap64 (x29 + 1), t136, P137, q138, (by first | rfl | simp), (by first | rfl | simp), HL142, ⟨by have := hk20.out; have := hk39.out; omega⟩, ⟨(((hm124.out.trans hu130.out).trans hu134.out).trans hu141.out)⟩, ⟨(Nat.le_trans ((Nat.le_trans ((Nat.le_trans (hm126.out) hu130.out.size)) hu134.out.size)) hu141.out.size)⟩, (ht136.lower ((Nat.le_trans ((Nat.le_trans (hm125.out) hu130.out.size)) hu134.out.size)))⟩
          ·
           rw [if_neg c135] at H
           replace c135 := Bool.eq_false_iff.mpr c135
           have c135n : (t127 != t131) = true := by rw [bne, c135]; rfl
           have c135p : ¬ t127 = t131 := fun e => by simp [e] at c135
           have HL143 := Aside0.mk H
           clear H
           try simp only [c135, c135n, Bool.not_true, Bool.not_false]
           refine wp_cond_false rfl ?_
           refine wp_skip ?_
           (try simp only [Exit.then, Exit.inBlock, ↓reduceIte, Nat.reduceEqDiff])
           refine hK46 _ _ ?_
           refine wp_region_lit ?_
           refine wpList_plain rfl (fun Ko hKo => ?_)
           go_simp
           refine hKo _ _ ?_
           clear hKo Ko
           try simp only [Act.put, nm1, nm2, nm3, i64_w]
           refine wpList_plain rfl (fun Ko hKo => ?_)
           go_simp
           refine hKo _ _ ?_
           clear hKo Ko
           try simp only [Act.put, nm1, nm2, nm3, i64_w]
           refine wpList_plain rfl (fun Ko hKo => ?_)
           go_simp
           refine hKo _ _ ?_
           clear hKo Ko
           try simp only [Act.put, nm1, nm2, nm3, i64_w]
           refine wpList_nil ?_
           (try simp only [Exit.then, Exit.inBlock, ↓reduceIte, Nat.reduceEqDiff])
           refine hK42 _ _ ?_
           go_roundg k38
           case measure => exact Nat.lt_succ_self _
           case rel => exact ⟨wrap64 (x29 + 1), x30, P31, q32, (by first | rfl | simp), (by first | rfl | simp), HL143, ⟨by have := hk20.out; have := hk39.out; omega⟩, ⟨((hm124.out.trans hu130.out).trans hu134.out)⟩, ⟨(Nat.le_trans ((Nat.le_trans (hm126.out) hu130.out.size)) hu134.out.size)⟩, (h37.up ((((((hu107.out.trans hu111.out).trans hu114.out).sto (Nat.le_trans ((Nat.le_trans (hu107.out.size) hu111.out.size)) lbb112.out) hs116.out).trans hu122.out).trans hu130.out).trans hu134.out))⟩
         ·
          rw [if_neg c123] at H
          replace c123 := Bool.eq_false_iff.mpr c123
          subst c123
          have HL144 := Aside0.mk H
          clear H
          refine step_no rfl ?_
          simp only [Act.put, nm1, nm2, nm3, i64_w]
          refine step_no rfl ?_
          simp only [Act.put, nm1, nm2, nm3, i64_w]
          refine step_no rfl ?_
          simp only [Act.put, nm1, nm2, nm3, i64_w]
          refine step_no rfl ?_
          simp only [Act.put, nm1, nm2, nm3, i64_w]
          refine step_no rfl ?_
          simp only [Act.put, nm1, nm2, nm3, i64_w]
          refine step_no rfl ?_
          simp only [Act.put, nm1, nm2, nm3, i64_w]
          refine step_no rfl ?_
          simp only [Act.put, nm1, nm2, nm3, i64_w]
          refine wpList_plain rfl (fun Ko hKo => ?_)
          go_simp
          refine hKo _ _ ?_
          clear hKo Ko
          try simp only [Act.put, nm1, nm2, nm3, i64_w]
          refine wpList_nil ?_
          (try simp only [Exit.then, Exit.inBlock, ↓reduceIte, Nat.reduceEqDiff])
          refine hK118 _ _ ?_
          refine wp_cond_false rfl ?_
          refine wp_skip ?_
          (try simp only [Exit.then, Exit.inBlock, ↓reduceIte, Nat.reduceEqDiff])
          refine hK46 _ _ ?_
          refine wp_region_lit ?_
          refine wpList_plain rfl (fun Ko hKo => ?_)
          go_simp
          refine hKo _ _ ?_
          clear hKo Ko
          try simp only [Act.put, nm1, nm2, nm3, i64_w]
          refine wpList_plain rfl (fun Ko hKo => ?_)
          go_simp
          refine hKo _ _ ?_
          clear hKo Ko
          try simp only [Act.put, nm1, nm2, nm3, i64_w]
          refine wpList_plain rfl (fun Ko hKo => ?_)
          go_simp
          refine hKo _ _ ?_
          clear hKo Ko
          try simp only [Act.put, nm1, nm2, nm3, i64_w]
          refine wpList_nil ?_
          (try simp only [Exit.then, Exit.inBlock, ↓reduceIte, Nat.reduceEqDiff])
          refine hK42 _ _ ?_
          go_roundg k38
          case measure => exact Nat.lt_succ_self _
          case rel => exact ⟨wrap64 (x29 + 1), x30, P31, q32, (by first | rfl | simp), (by first | rfl | simp), HL144, ⟨by have := hk20.out; have := hk39.out; omega⟩, ⟨hm124.out⟩, ⟨hm126.out⟩, (h37.up ((((hu107.out.trans hu111.out).trans hu114.out).sto (Nat.le_trans ((Nat.le_trans (hu107.out.size) hu111.out.size)) lbb112.out) hs116.out).trans hu122.out))⟩
        ·
         rw [if_neg c102] at H
         replace c102 := Bool.eq_false_iff.mpr c102
         have c102n : (x29 != 0) = true := by rw [bne, c102]; rfl
         have c102p : ¬ x29 = 0 := fun e => by simp [e] at c102
         replace H := Option.bind_eq_some_iff.mp H
         obtain ⟨t145, A146, H⟩ := H
         replace A146 := Aside0.mk A146
         try dsimp only at H
         replace H := Option.bind_eq_some_iff.mp H
         obtain ⟨t150, A151, H⟩ := H
         replace A151 := Aside0.mk A151
         try dsimp only at H
         replace H := Option.bind_eq_some_iff.mp H
         obtain ⟨t154, A155, H⟩ := H
         replace A155 := Aside0.mk A155
         try dsimp only at H
         replace H := Option.bind_eq_some_iff.mp H
         obtain ⟨t165, A166, H⟩ := H
         replace A166 := Aside0.mk A166
         try dsimp only at H
         try simp only [c102, c102n, Bool.not_true, Bool.not_false]
         refine wp_cond_true rfl ?_
         refine wp_region_lit ?_
         refine wpList_plain rfl (fun Ko hKo => ?_)
         go_simp
         refine hKo _ _ ?_
         clear hKo Ko
         try simp only [Act.put, nm1, nm2, nm3, i64_w]
         refine wpList_plain rfl (fun Ko hKo => ?_)
         go_simp
         refine hKo _ _ ?_
         clear hKo Ko
         try simp only [Act.put, nm1, nm2, nm3, i64_w]
         refine step_call (wanted_none rfl) (by first | (go_simp; done) | (go_simp; rfl)) (spec_l01Inverse.calls K x29 a0 t145 w33  A146.out) ?_
         rintro e w147 ⟨rfl, hu⟩
         have hu148 := Aside0.mk hu
         clear hu
         refine ⟨_, rfl, ?_⟩
         simp only [Act.put, nm1, nm2, nm3, i64_w]
         refine wpList_plain rfl (fun Ko hKo => ?_)
         go_simp
         refine hKo _ _ ?_
         clear hKo Ko
         try simp only [Act.put, nm1, nm2, nm3, i64_w]
         refine wpList_nil ?_
         (try simp only [Exit.then, Exit.inBlock, ↓reduceIte, Nat.reduceEqDiff])
         refine hK48 _ _ ?_
         refine wp_seq_k (fun K149 hK149 => ?_)
         refine wp_region_lit ?_
         refine wpList_plain rfl (fun Ko hKo => ?_)
         go_simp
         refine hKo _ _ ?_
         clear hKo Ko
         try simp only [Act.put, nm1, nm2, nm3, i64_w]
         refine wpList_plain rfl (fun Ko hKo => ?_)
         go_simp
         refine hKo _ _ ?_
         clear hKo Ko
         try simp only [Act.put, nm1, nm2, nm3, i64_w]
         refine wpList_plain rfl (fun Ko hKo => ?_)
         go_simp
         refine hKo _ _ ?_
         clear hKo Ko
         try simp only [Act.put, nm1, nm2, nm3, i64_w]
         refine step_call (wanted_none rfl) (by first | (go_simp; done) | (go_simp; rfl)) (spec_l01Mod.calls K t145 a0 t150 w147  A151.out) ?_
         rintro e w152 ⟨rfl, hu⟩
         have hu153 := Aside0.mk hu
         clear hu
         refine ⟨_, rfl, ?_⟩
         simp only [Act.put, nm1, nm2, nm3, i64_w]
         refine wpList_plain rfl (fun Ko hKo => ?_)
         go_simp
         refine hKo _ _ ?_
         clear hKo Ko
         try simp only [Act.put, nm1, nm2, nm3, i64_w]
         refine wpList_plain rfl (fun Ko hKo => ?_)
         go_simp
         refine hKo _ _ ?_
         clear hKo Ko
         try simp only [Act.put, nm1, nm2, nm3, i64_w]
         refine wpList_plain rfl (fun Ko hKo => ?_)
         go_simp
         refine hKo _ _ ?_
         clear hKo Ko
         try simp only [Act.put, nm1, nm2, nm3, i64_w]
         refine step_call (wanted_none rfl) (by first | (go_simp; done) | (go_simp; rfl)) (spec_l01Mod.calls K x10 a0 t154 w152  A155.out) ?_
         rintro e w156 ⟨rfl, hu⟩
         have hu157 := Aside0.mk hu
         clear hu
         refine ⟨_, rfl, ?_⟩
         simp only [Act.put, nm1, nm2, nm3, i64_w]
         refine wpList_plain rfl (fun Ko hKo => ?_)
         go_simp
         refine hKo _ _ ?_
         clear hKo Ko
         try simp only [Act.put, nm1, nm2, nm3, i64_w]
         refine wpList_plain rfl (fun Ko hKo => ?_)
         go_simp
         refine hKo _ _ ?_
         clear hKo Ko
         try simp only [Act.put, nm1, nm2, nm3, i64_w]
         refine step_new (cs := [.int .i64 0, .int .i64 0, .int .i64 0, .int .i64 0, .int .i64 0, .int .i64 0]) (T := 30) (f := fun b => .pointer (some ⟨b, 0, none⟩)) rfl (by first | (go_simp; done) | (go_simp; rfl)) ?_
         intro b158 w159 hu lb hb158
         simp only [Act.put, nm1, nm2, nm3, i64_w]
         have lbb158 := Aside0.mk lb
         have ltb158 := Aside0.mk hb158.lt
         clear lb
         have hu160 := Aside0.mk hu
         clear hu
         have hB0 := hb158
         have cl0 := hB0.cell (o := 0) rfl
         have fr0 := hB0.free 0
         have cl1 := hB0.cell (o := 1) rfl
         have fr1 := hB0.free 1
         have cl2 := hB0.cell (o := 2) rfl
         have fr2 := hB0.free 2
         have cl3 := hB0.cell (o := 3) rfl
         have fr3 := hB0.free 3
         have cl4 := hB0.cell (o := 4) rfl
         have fr4 := hB0.free 4
         have cl5 := hB0.cell (o := 5) rfl
         have fr5 := hB0.free 5
         refine step_store (b := b158) (cs' := [.int .i64 x10, .int .i64 t150, .int .i64 x29, .int .i64 t154, .int .i64 0, .int .i64 0]) (T := 30) (W' := ((((((w159.setCell ⟨b158, 0, none⟩ (.int .i64 x10)).setCell ⟨b158, 1, none⟩ (.int .i64 t150)).setCell ⟨b158, 2, none⟩ (.int .i64 x29)).setCell ⟨b158, 3, none⟩ (.int .i64 t154)).setCell ⟨b158, 4, none⟩ (.int .i64 0)).setCell ⟨b158, 5, none⟩ (.int .i64 0))) rfl rfl (by first | (go_simp; done) | (go_simp; rfl)) (((((((Sto.refl _ _).setCell 0 _).setCell 1 _).setCell 2 _).setCell 3 _).setCell 4 _).setCell 5 _) (((((((hB0).setCell 0 _).setCell 1 _).setCell 2 _).setCell 3 _).setCell 4 _).setCell 5 _) ?_
         clear hB0 cl0 fr0 cl1 fr1 cl2 fr2 cl3 fr3 cl4 fr4 cl5 fr5
         intro w161 hs hb163
         have hs162 := Aside0.mk hs
         clear hs
         refine wpList_nil ?_
         (try simp only [Exit.then, Exit.inBlock, ↓reduceIte, Nat.reduceEqDiff])
         refine hK149 _ _ ?_
         refine wp_seq_k (fun K164 hK164 => ?_)
         refine wp_region_lit ?_
         refine wpList_plain rfl (fun Ko hKo => ?_)
         go_simp
         refine hKo _ _ ?_
         clear hKo Ko
         try simp only [Act.put, nm1, nm2, nm3, i64_w]
         refine wpList_plain rfl (fun Ko hKo => ?_)
         go_simp
         refine hKo _ _ ?_
         clear hKo Ko
         try simp only [Act.put, nm1, nm2, nm3, i64_w]
         have cl0 := hb163.cell (o := 0) rfl
         have cl1 := hb163.cell (o := 1) rfl
         have cl2 := hb163.cell (o := 2) rfl
         have cl3 := hb163.cell (o := 3) rfl
         have cl4 := hb163.cell (o := 4) rfl
         have cl5 := hb163.cell (o := 5) rfl
         refine wpList_plain rfl (fun Ko hKo => ?_)
         go_simp
         refine hKo _ _ ?_
         clear hKo Ko
         clear cl0 cl1 cl2 cl3 cl4 cl5
         try simp only [Act.put, nm1, nm2, nm3, i64_w]
         refine step_call (wanted_none rfl) (by first | (go_simp; done) | (go_simp; rfl)) (spec_l07Good.calls K a0 a1 x10 t150 x29 t154 0 0 t165 w161  A166.out) ?_
         rintro e w167 ⟨rfl, hu⟩
         have hu168 := Aside0.mk hu
         clear hu
         refine ⟨_, rfl, ?_⟩
         simp only [Act.put, nm1, nm2, nm3, i64_w]
         refine wpList_plain rfl (fun Ko hKo => ?_)
         go_simp
         refine hKo _ _ ?_
         clear hKo Ko
         try simp only [Act.put, nm1, nm2, nm3, i64_w]
         have hm170 := Aside0.mk ((((((hu34.out.trans hu148.out).trans hu153.out).trans hu157.out).trans hu160.out).sto (Nat.le_trans ((Nat.le_trans ((Nat.le_trans ((Nat.le_trans ((Nat.le_trans ((Nat.le_trans (hu5.out.size) hz16.out)) hz35.out)) hu148.out.size)) hu153.out.size)) hu157.out.size)) lbb158.out) hs162.out).trans hu168.out)
         have hm171 := Aside0.mk (Nat.le_trans ((Nat.le_trans ((Nat.le_trans ((Nat.le_trans ((Nat.le_trans ((Nat.le_trans ((Nat.le_trans ((Nat.le_trans (hu5.out.size) hz16.out)) hz35.out)) hu148.out.size)) hu153.out.size)) hu157.out.size)) hu160.out.size)) (Nat.le_of_eq hs162.out.size.symm))) hu168.out.size)
         have hm172 := Aside0.mk (Nat.le_trans ((Nat.le_trans ((Nat.le_trans ((Nat.le_trans ((Nat.le_trans ((Nat.le_trans ((Nat.le_trans (Nat.le_refl _) hz35.out)) hu148.out.size)) hu153.out.size)) hu157.out.size)) hu160.out.size)) (Nat.le_of_eq hs162.out.size.symm))) hu168.out.size)
         by_cases c169 : (t165) = true
         ·
          rw [if_pos c169] at H
          subst c169
          replace H := Option.bind_eq_some_iff.mp H
          obtain ⟨t173, A174, H⟩ := H
          replace A174 := Aside0.mk A174
          try dsimp only at H
          replace H := Option.bind_eq_some_iff.mp H
          obtain ⟨t177, A178, H⟩ := H
          replace A178 := Aside0.mk A178
          try dsimp only at H
          refine wpList_step (fun Ko hKo => ?_)
          go_simp
          refine hKo _ _ ?_
          clear hKo Ko
          try simp only [Act.put, nm1, nm2, nm3, i64_w]
          have cl0 := (hb163.up hu168.out).cell (o := 0) rfl
          have cl1 := (hb163.up hu168.out).cell (o := 1) rfl
          have cl2 := (hb163.up hu168.out).cell (o := 2) rfl
          have cl3 := (hb163.up hu168.out).cell (o := 3) rfl
          have cl4 := (hb163.up hu168.out).cell (o := 4) rfl
          have cl5 := (hb163.up hu168.out).cell (o := 5) rfl
          refine wpList_step (fun Ko hKo => ?_)
          go_simp
          refine hKo _ _ ?_
          clear hKo Ko
          clear cl0 cl1 cl2 cl3 cl4 cl5
          try simp only [Act.put, nm1, nm2, nm3, i64_w]
          refine step_call rfl (by first | (go_simp; done) | (go_simp; rfl)) (spec_l07Sign.calls K a0 x10 t150 x29 t154 0 0 t173 w167  A174.out) ?_
          rintro e w175 ⟨rfl, hu⟩
          have hu176 := Aside0.mk hu
          clear hu
          refine ⟨_, rfl, ?_⟩
          simp only [Act.put, nm1, nm2, nm3, i64_w]
          refine wpList_step (fun Ko hKo => ?_)
          go_simp
          refine hKo _ _ ?_
          clear hKo Ko
          try simp only [Act.put, nm1, nm2, nm3, i64_w]
          refine wpList_step (fun Ko hKo => ?_)
          go_simp
          refine hKo _ _ ?_
          clear hKo Ko
          try simp only [Act.put, nm1, nm2, nm3, i64_w]
          refine step_call rfl (by first | (go_simp; done) | (go_simp; rfl)) (spec_l01Mod.calls K a2 a0 t177 w175  A178.out) ?_
          rintro e w179 ⟨rfl, hu⟩
          have hu180 := Aside0.mk hu
          clear hu
          refine ⟨_, rfl, ?_⟩
          simp only [Act.put, nm1, nm2, nm3, i64_w]
          refine wpList_step (fun Ko hKo => ?_)
          go_simp
          refine hKo _ _ ?_
          clear hKo Ko
          try simp only [Act.put, nm1, nm2, nm3, i64_w]
          refine wpList_plain rfl (fun Ko hKo => ?_)
          go_simp
          refine hKo _ _ ?_
          clear hKo Ko
          try simp only [Act.put, nm1, nm2, nm3, i64_w]
          refine wpList_nil ?_
          (try simp only [Exit.then, Exit.inBlock, ↓reduceIte, Nat.reduceEqDiff])
          refine hK164 _ _ ?_
          by_cases c181 : (t173 == t177) = true
          ·
           rw [if_pos c181] at H
           have c181n : (t173 != t177) = false := by rw [bne, c181]; rfl
           replace H := Option.bind_eq_some_iff.mp H
           obtain ⟨t182, A185, H⟩ := H
           replace A185 := Aside0.mk A185
           try dsimp only at H
           have HL188 := Aside0.mk H
           clear H
           try simp only [c181, c181n, Bool.not_true, Bool.not_false]
           refine wp_cond_true rfl ?_
           refine wp_region_lit ?_
           refine wpList_plain rfl (fun Ko hKo => ?_)
           go_simp
           refine hKo _ _ ?_
           clear hKo Ko
           try simp only [Act.put, nm1, nm2, nm3, i64_w]
           have cl0 := (hb163.up ((hu168.out.trans hu176.out).trans hu180.out)).cell (o := 0) rfl
           have cl1 := (hb163.up ((hu168.out.trans hu176.out).trans hu180.out)).cell (o := 1) rfl
           have cl2 := (hb163.up ((hu168.out.trans hu176.out).trans hu180.out)).cell (o := 2) rfl
           have cl3 := (hb163.up ((hu168.out.trans hu176.out).trans hu180.out)).cell (o := 3) rfl
           have cl4 := (hb163.up ((hu168.out.trans hu176.out).trans hu180.out)).cell (o := 4) rfl
           have cl5 := (hb163.up ((hu168.out.trans hu176.out).trans hu180.out)).cell (o := 5) rfl
           refine wpList_plain rfl (fun Ko hKo => ?_)
           go_simp
           refine hKo _ _ ?_
           clear hKo Ko
           clear cl0 cl1 cl2 cl3 cl4 cl5
           try simp only [Act.put, nm1, nm2, nm3, i64_w]
           refine step_call (wanted_none rfl) (by first | (go_simp; done) | (go_simp; rfl)) (spec_l07Put.calls K P31 q32 x30 x10 t150 x29 t154 0 0 t182 w179 ((h37.up (((((((hu148.out.trans hu153.out).trans hu157.out).trans hu160.out).sto (Nat.le_trans ((Nat.le_trans ((Nat.le_trans (hu148.out.size) hu153.out.size)) hu157.out.size)) lbb158.out) hs162.out).trans hu168.out).trans hu176.out).trans hu180.out)).rd) (Own.cap (h37.up (((((((hu148.out.trans hu153.out).trans hu157.out).trans hu160.out).sto (Nat.le_trans ((Nat.le_trans ((Nat.le_trans (hu148.out.size) hu153.out.size)) hu157.out.size)) lbb158.out) hs162.out).trans hu168.out).trans hu176.out).trans hu180.out))) A185.out) ?_
           rintro e w186 ⟨P183, q184, rfl, ht182, hu⟩
           have hu187 := Aside0.mk hu
           clear hu
           refine ⟨_, rfl, ?_⟩
           simp only [Act.put, nm1, nm2, nm3, i64_w]
           refine wpList_plain rfl (fun Ko hKo => ?_)
           go_simp
           refine hKo _ _ ?_
           clear hKo Ko
           try simp only [Act.put, nm1, nm2, nm3, i64_w]
           refine wpList_nil ?_
           (try simp only [Exit.then, Exit.inBlock, ↓reduceIte, Nat.reduceEqDiff])
           refine hK46 _ _ ?_
           refine wp_region_lit ?_
           refine wpList_plain rfl (fun Ko hKo => ?_)
           go_simp
           refine hKo _ _ ?_
           clear hKo Ko
           try simp only [Act.put, nm1, nm2, nm3, i64_w]
           refine wpList_plain rfl (fun Ko hKo => ?_)
           go_simp
           refine hKo _ _ ?_
           clear hKo Ko
           try simp only [Act.put, nm1, nm2, nm3, i64_w]
           refine wpList_plain rfl (fun Ko hKo => ?_)
           go_simp
           refine hKo _ _ ?_
           clear hKo Ko
           try simp only [Act.put, nm1, nm2, nm3, i64_w]
           refine wpList_nil ?_
           (try simp only [Exit.then, Exit.inBlock, ↓reduceIte, Nat.reduceEqDiff])
           refine hK42 _ _ ?_
           go_roundg k38
           case measure => exact Nat.lt_succ_self _
           case rel => exact ⟨wrap64 (x29 + 1), t182, P183, q184, (by first | rfl | simp), (by first | rfl | simp), HL188, ⟨by have := hk20.out; have := hk39.out; omega⟩, ⟨(((hm170.out.trans hu176.out).trans hu180.out).trans hu187.out)⟩, ⟨(Nat.le_trans ((Nat.le_trans ((Nat.le_trans (hm172.out) hu176.out.size)) hu180.out.size)) hu187.out.size)⟩, (ht182.lower ((Nat.le_trans ((Nat.le_trans (hm171.out) hu176.out.size)) hu180.out.size)))⟩
          ·
           rw [if_neg c181] at H
           replace c181 := Bool.eq_false_iff.mpr c181
           have c181n : (t173 != t177) = true := by rw [bne, c181]; rfl
           have c181p : ¬ t173 = t177 := fun e => by simp [e] at c181
           have HL189 := Aside0.mk H
           clear H
           try simp only [c181, c181n, Bool.not_true, Bool.not_false]
           refine wp_cond_false rfl ?_
           refine wp_skip ?_
           (try simp only [Exit.then, Exit.inBlock, ↓reduceIte, Nat.reduceEqDiff])
           refine hK46 _ _ ?_
           refine wp_region_lit ?_
           refine wpList_plain rfl (fun Ko hKo => ?_)
           go_simp
           refine hKo _ _ ?_
           clear hKo Ko
           try simp only [Act.put, nm1, nm2, nm3, i64_w]
           refine wpList_plain rfl (fun Ko hKo => ?_)
           go_simp
           refine hKo _ _ ?_
           clear hKo Ko
           try simp only [Act.put, nm1, nm2, nm3, i64_w]
           refine wpList_plain rfl (fun Ko hKo => ?_)
           go_simp
           refine hKo _ _ ?_
           clear hKo Ko
           try simp only [Act.put, nm1, nm2, nm3, i64_w]
           refine wpList_nil ?_
           (try simp only [Exit.then, Exit.inBlock, ↓reduceIte, Nat.reduceEqDiff])
           refine hK42 _ _ ?_
           go_roundg k38
           case measure => exact Nat.lt_succ_self _
           case rel => exact ⟨wrap64 (x29 + 1), x30, P31, q32, (by first | rfl | simp), (by first | rfl | simp), HL189, ⟨by have := hk20.out; have := hk39.out; omega⟩, ⟨((hm170.out.trans hu176.out).trans hu180.out)⟩, ⟨(Nat.le_trans ((Nat.le_trans (hm172.out) hu176.out.size)) hu180.out.size)⟩, (h37.up (((((((hu148.out.trans hu153.out).trans hu157.out).trans hu160.out).sto (Nat.le_trans ((Nat.le_trans ((Nat.le_trans (hu148.out.size) hu153.out.size)) hu157.out.size)) lbb158.out) hs162.out).trans hu168.out).trans hu176.out).trans hu180.out))⟩
         ·
          rw [if_neg c169] at H
          replace c169 := Bool.eq_false_iff.mpr c169
          subst c169
          have HL190 := Aside0.mk H
          clear H
          refine step_no rfl ?_
          simp only [Act.put, nm1, nm2, nm3, i64_w]
          refine step_no rfl ?_
          simp only [Act.put, nm1, nm2, nm3, i64_w]
          refine step_no rfl ?_
          simp only [Act.put, nm1, nm2, nm3, i64_w]
          refine step_no rfl ?_
          simp only [Act.put, nm1, nm2, nm3, i64_w]
          refine step_no rfl ?_
          simp only [Act.put, nm1, nm2, nm3, i64_w]
          refine step_no rfl ?_
          simp only [Act.put, nm1, nm2, nm3, i64_w]
          refine step_no rfl ?_
          simp only [Act.put, nm1, nm2, nm3, i64_w]
          refine wpList_plain rfl (fun Ko hKo => ?_)
          go_simp
          refine hKo _ _ ?_
          clear hKo Ko
          try simp only [Act.put, nm1, nm2, nm3, i64_w]
          refine wpList_nil ?_
          (try simp only [Exit.then, Exit.inBlock, ↓reduceIte, Nat.reduceEqDiff])
          refine hK164 _ _ ?_
          refine wp_cond_false rfl ?_
          refine wp_skip ?_
          (try simp only [Exit.then, Exit.inBlock, ↓reduceIte, Nat.reduceEqDiff])
          refine hK46 _ _ ?_
          refine wp_region_lit ?_
          refine wpList_plain rfl (fun Ko hKo => ?_)
          go_simp
          refine hKo _ _ ?_
          clear hKo Ko
          try simp only [Act.put, nm1, nm2, nm3, i64_w]
          refine wpList_plain rfl (fun Ko hKo => ?_)
          go_simp
          refine hKo _ _ ?_
          clear hKo Ko
          try simp only [Act.put, nm1, nm2, nm3, i64_w]
          refine wpList_plain rfl (fun Ko hKo => ?_)
          go_simp
          refine hKo _ _ ?_
          clear hKo Ko
          try simp only [Act.put, nm1, nm2, nm3, i64_w]
          refine wpList_nil ?_
          (try simp only [Exit.then, Exit.inBlock, ↓reduceIte, Nat.reduceEqDiff])
          refine hK42 _ _ ?_
          go_roundg k38
          case measure => exact Nat.lt_succ_self _
          case rel => exact ⟨wrap64 (x29 + 1), x30, P31, q32, (by first | rfl | simp), (by first | rfl | simp), HL190, ⟨by have := hk20.out; have := hk39.out; omega⟩, ⟨hm170.out⟩, ⟨hm172.out⟩, (h37.up (((((hu148.out.trans hu153.out).trans hu157.out).trans hu160.out).sto (Nat.le_trans ((Nat.le_trans ((Nat.le_trans (hu148.out.size) hu153.out.size)) hu157.out.size)) lbb158.out) hs162.out).trans hu168.out))⟩
       ·
        rw [if_neg c100] at H
        replace c100 := Bool.eq_false_iff.mpr c100
        have c100n : (x10 != 0) = true := by rw [bne, c100]; rfl
        have c100p : ¬ x10 = 0 := fun e => by simp [e] at c100
        replace H := Option.bind_eq_some_iff.mp H
        obtain ⟨t191, A192, H⟩ := H
        replace A192 := Aside0.mk A192
        try dsimp only at H
        try simp only [c100, c100n, Bool.not_true, Bool.not_false]
        refine wp_cond_true rfl ?_
        refine wp_region_lit ?_
        refine wpList_plain rfl (fun Ko hKo => ?_)
        go_simp
        refine hKo _ _ ?_
        clear hKo Ko
        try simp only [Act.put, nm1, nm2, nm3, i64_w]
        refine wpList_plain rfl (fun Ko hKo => ?_)
        go_simp
        refine hKo _ _ ?_
        clear hKo Ko
        try simp only [Act.put, nm1, nm2, nm3, i64_w]
        refine step_call (wanted_none rfl) (by first | (go_simp; done) | (go_simp; rfl)) (spec_l01Inverse.calls K x10 a0 t191 w33  A192.out) ?_
        rintro e w193 ⟨rfl, hu⟩
        have hu194 := Aside0.mk hu
        clear hu
        refine ⟨_, rfl, ?_⟩
        simp only [Act.put, nm1, nm2, nm3, i64_w]
        refine wpList_plain rfl (fun Ko hKo => ?_)
        go_simp
        refine hKo _ _ ?_
        clear hKo Ko
        try simp only [Act.put, nm1, nm2, nm3, i64_w]
        refine wpList_nil ?_
        (try simp only [Exit.then, Exit.inBlock, ↓reduceIte, Nat.reduceEqDiff])
        refine hK98 _ _ ?_
        refine wp_seq_k (fun K195 hK195 => ?_)
        refine wp_region_lit ?_
        refine wpList_plain rfl (fun Ko hKo => ?_)
        go_simp
        refine hKo _ _ ?_
        clear hKo Ko
        try simp only [Act.put, nm1, nm2, nm3, i64_w]
        refine wpList_plain rfl (fun Ko hKo => ?_)
        go_simp
        refine hKo _ _ ?_
        clear hKo Ko
        try simp only [Act.put, nm1, nm2, nm3, i64_w]
        refine wpList_nil ?_
        (try simp only [Exit.then, Exit.inBlock, ↓reduceIte, Nat.reduceEqDiff])
        refine hK195 _ _ ?_
        have hm197 := Aside0.mk (Nat.le_trans ((Nat.le_trans ((Nat.le_trans (hu5.out.size) hz16.out)) hz35.out)) hu194.out.size)
        by_cases c196 : (x29 == 0) = true
        ·
         rw [if_pos c196] at H
         have c196n : (x29 != 0) = false := by rw [bne, c196]; rfl
         replace H := Option.bind_eq_some_iff.mp H
         obtain ⟨t199, A200, H⟩ := H
         replace A200 := Aside0.mk A200
         try dsimp only at H
         replace H := Option.bind_eq_some_iff.mp H
         obtain ⟨t203, A204, H⟩ := H
         replace A204 := Aside0.mk A204
         try dsimp only at H
         replace H := Option.bind_eq_some_iff.mp H
         obtain ⟨t214, A215, H⟩ := H
         replace A215 := Aside0.mk A215
         try dsimp only at H
         try simp only [c196, c196n, Bool.not_true, Bool.not_false]
         refine wp_cond_false rfl ?_
         refine wp_skip ?_
         (try simp only [Exit.then, Exit.inBlock, ↓reduceIte, Nat.reduceEqDiff])
         refine hK48 _ _ ?_
         refine wp_seq_k (fun K198 hK198 => ?_)
         refine wp_region_lit ?_
         refine wpList_plain rfl (fun Ko hKo => ?_)
         go_simp
         refine hKo _ _ ?_
         clear hKo Ko
         try simp only [Act.put, nm1, nm2, nm3, i64_w]
         refine wpList_plain rfl (fun Ko hKo => ?_)
         go_simp
         refine hKo _ _ ?_
         clear hKo Ko
         try simp only [Act.put, nm1, nm2, nm3, i64_w]
         refine wpList_plain rfl (fun Ko hKo => ?_)
         go_simp
         refine hKo _ _ ?_
         clear hKo Ko
         try simp only [Act.put, nm1, nm2, nm3, i64_w]
         refine step_call (wanted_none rfl) (by first | (go_simp; done) | (go_simp; rfl)) (spec_l01Mod.calls K x29 a0 t199 w193  A200.out) ?_
         rintro e w201 ⟨rfl, hu⟩
         have hu202 := Aside0.mk hu
         clear hu
         refine ⟨_, rfl, ?_⟩
         simp only [Act.put, nm1, nm2, nm3, i64_w]
         refine wpList_plain rfl (fun Ko hKo => ?_)
         go_simp
         refine hKo _ _ ?_
         clear hKo Ko
         try simp only [Act.put, nm1, nm2, nm3, i64_w]
         refine wpList_plain rfl (fun Ko hKo => ?_)
         go_simp
         refine hKo _ _ ?_
         clear hKo Ko
         try simp only [Act.put, nm1, nm2, nm3, i64_w]
         refine wpList_plain rfl (fun Ko hKo => ?_)
         go_simp
         refine hKo _ _ ?_
         clear hKo Ko
         try simp only [Act.put, nm1, nm2, nm3, i64_w]
         refine step_call (wanted_none rfl) (by first | (go_simp; done) | (go_simp; rfl)) (spec_l01Mod.calls K t191 a0 t203 w201  A204.out) ?_
         rintro e w205 ⟨rfl, hu⟩
         have hu206 := Aside0.mk hu
         clear hu
         refine ⟨_, rfl, ?_⟩
         simp only [Act.put, nm1, nm2, nm3, i64_w]
         refine wpList_plain rfl (fun Ko hKo => ?_)
         go_simp
         refine hKo _ _ ?_
         clear hKo Ko
         try simp only [Act.put, nm1, nm2, nm3, i64_w]
         refine wpList_plain rfl (fun Ko hKo => ?_)
         go_simp
         refine hKo _ _ ?_
         clear hKo Ko
         try simp only [Act.put, nm1, nm2, nm3, i64_w]
         refine step_new (cs := [.int .i64 0, .int .i64 0, .int .i64 0, .int .i64 0, .int .i64 0, .int .i64 0]) (T := 30) (f := fun b => .pointer (some ⟨b, 0, none⟩)) rfl (by first | (go_simp; done) | (go_simp; rfl)) ?_
         intro b207 w208 hu lb hb207
         simp only [Act.put, nm1, nm2, nm3, i64_w]
         have lbb207 := Aside0.mk lb
         have ltb207 := Aside0.mk hb207.lt
         clear lb
         have hu209 := Aside0.mk hu
         clear hu
         have hB0 := hb207
         have cl0 := hB0.cell (o := 0) rfl
         have fr0 := hB0.free 0
         have cl1 := hB0.cell (o := 1) rfl
         have fr1 := hB0.free 1
         have cl2 := hB0.cell (o := 2) rfl
         have fr2 := hB0.free 2
         have cl3 := hB0.cell (o := 3) rfl
         have fr3 := hB0.free 3
         have cl4 := hB0.cell (o := 4) rfl
         have fr4 := hB0.free 4
         have cl5 := hB0.cell (o := 5) rfl
         have fr5 := hB0.free 5
         refine step_store (b := b207) (cs' := [.int .i64 x10, .int .i64 t199, .int .i64 x29, .int .i64 t203, .int .i64 0, .int .i64 0]) (T := 30) (W' := ((((((w208.setCell ⟨b207, 0, none⟩ (.int .i64 x10)).setCell ⟨b207, 1, none⟩ (.int .i64 t199)).setCell ⟨b207, 2, none⟩ (.int .i64 x29)).setCell ⟨b207, 3, none⟩ (.int .i64 t203)).setCell ⟨b207, 4, none⟩ (.int .i64 0)).setCell ⟨b207, 5, none⟩ (.int .i64 0))) rfl rfl (by first | (go_simp; done) | (go_simp; rfl)) (((((((Sto.refl _ _).setCell 0 _).setCell 1 _).setCell 2 _).setCell 3 _).setCell 4 _).setCell 5 _) (((((((hB0).setCell 0 _).setCell 1 _).setCell 2 _).setCell 3 _).setCell 4 _).setCell 5 _) ?_
         clear hB0 cl0 fr0 cl1 fr1 cl2 fr2 cl3 fr3 cl4 fr4 cl5 fr5
         intro w210 hs hb212
         have hs211 := Aside0.mk hs
         clear hs
         refine wpList_nil ?_
         (try simp only [Exit.then, Exit.inBlock, ↓reduceIte, Nat.reduceEqDiff])
         refine hK198 _ _ ?_
         refine wp_seq_k (fun K213 hK213 => ?_)
         refine wp_region_lit ?_
         refine wpList_plain rfl (fun Ko hKo => ?_)
         go_simp
         refine hKo _ _ ?_
         clear hKo Ko
         try simp only [Act.put, nm1, nm2, nm3, i64_w]
         refine wpList_plain rfl (fun Ko hKo => ?_)
         go_simp
         refine hKo _ _ ?_
         clear hKo Ko
         try simp only [Act.put, nm1, nm2, nm3, i64_w]
         have cl0 := hb212.cell (o := 0) rfl
         have cl1 := hb212.cell (o := 1) rfl
         have cl2 := hb212.cell (o := 2) rfl
         have cl3 := hb212.cell (o := 3) rfl
         have cl4 := hb212.cell (o := 4) rfl
         have cl5 := hb212.cell (o := 5) rfl
         refine wpList_plain rfl (fun Ko hKo => ?_)
         go_simp
         refine hKo _ _ ?_
         clear hKo Ko
         clear cl0 cl1 cl2 cl3 cl4 cl5
         try simp only [Act.put, nm1, nm2, nm3, i64_w]
         refine step_call (wanted_none rfl) (by first | (go_simp; done) | (go_simp; rfl)) (spec_l07Good.calls K a0 a1 x10 t199 x29 t203 0 0 t214 w210  A215.out) ?_
         rintro e w216 ⟨rfl, hu⟩
         have hu217 := Aside0.mk hu
         clear hu
         refine ⟨_, rfl, ?_⟩
         simp only [Act.put, nm1, nm2, nm3, i64_w]
         refine wpList_plain rfl (fun Ko hKo => ?_)
         go_simp
         refine hKo _ _ ?_
         clear hKo Ko
         try simp only [Act.put, nm1, nm2, nm3, i64_w]
         have hm219 := Aside0.mk ((((((hu34.out.trans hu194.out).trans hu202.out).trans hu206.out).trans hu209.out).sto (Nat.le_trans ((Nat.le_trans ((Nat.le_trans (hm197.out) hu202.out.size)) hu206.out.size)) lbb207.out) hs211.out).trans hu217.out)
         have hm220 := Aside0.mk (Nat.le_trans ((Nat.le_trans ((Nat.le_trans ((Nat.le_trans ((Nat.le_trans (hm197.out) hu202.out.size)) hu206.out.size)) hu209.out.size)) (Nat.le_of_eq hs211.out.size.symm))) hu217.out.size)
         have hm221 := Aside0.mk (Nat.le_trans ((Nat.le_trans ((Nat.le_trans ((Nat.le_trans ((Nat.le_trans ((Nat.le_trans ((Nat.le_trans (Nat.le_refl _) hz35.out)) hu194.out.size)) hu202.out.size)) hu206.out.size)) hu209.out.size)) (Nat.le_of_eq hs211.out.size.symm))) hu217.out.size)
         by_cases c218 : (t214) = true
         ·
          rw [if_pos c218] at H
          subst c218
          replace H := Option.bind_eq_some_iff.mp H
          obtain ⟨t222, A223, H⟩ := H
          replace A223 := Aside0.mk A223
          try dsimp only at H
          replace H := Option.bind_eq_some_iff.mp H
          obtain ⟨t226, A227, H⟩ := H
          replace A227 := Aside0.mk A227
          try dsimp only at H
          refine wpList_step (fun Ko hKo => ?_)
          go_simp
          refine hKo _ _ ?_
          clear hKo Ko
          try simp only [Act.put, nm1, nm2, nm3, i64_w]
          have cl0 := (hb212.up hu217.out).cell (o := 0) rfl
          have cl1 := (hb212.up hu217.out).cell (o := 1) rfl
          have cl2 := (hb212.up hu217.out).cell (o := 2) rfl
          have cl3 := (hb212.up hu217.out).cell (o := 3) rfl
          have cl4 := (hb212.up hu217.out).cell (o := 4) rfl
          have cl5 := (hb212.up hu217.out).cell (o := 5) rfl
          refine wpList_step (fun Ko hKo => ?_)
          go_simp
          refine hKo _ _ ?_
          clear hKo Ko
          clear cl0 cl1 cl2 cl3 cl4 cl5
          try simp only [Act.put, nm1, nm2, nm3, i64_w]
          refine step_call rfl (by first | (go_simp; done) | (go_simp; rfl)) (spec_l07Sign.calls K a0 x10 t199 x29 t203 0 0 t222 w216  A223.out) ?_
          rintro e w224 ⟨rfl, hu⟩
          have hu225 := Aside0.mk hu
          clear hu
          refine ⟨_, rfl, ?_⟩
          simp only [Act.put, nm1, nm2, nm3, i64_w]
          refine wpList_step (fun Ko hKo => ?_)
          go_simp
          refine hKo _ _ ?_
          clear hKo Ko
          try simp only [Act.put, nm1, nm2, nm3, i64_w]
          refine wpList_step (fun Ko hKo => ?_)
          go_simp
          refine hKo _ _ ?_
          clear hKo Ko
          try simp only [Act.put, nm1, nm2, nm3, i64_w]
          refine step_call rfl (by first | (go_simp; done) | (go_simp; rfl)) (spec_l01Mod.calls K a2 a0 t226 w224  A227.out) ?_
          rintro e w228 ⟨rfl, hu⟩
          have hu229 := Aside0.mk hu
          clear hu
          refine ⟨_, rfl, ?_⟩
          simp only [Act.put, nm1, nm2, nm3, i64_w]
          refine wpList_step (fun Ko hKo => ?_)
          go_simp
          refine hKo _ _ ?_
          clear hKo Ko
          try simp only [Act.put, nm1, nm2, nm3, i64_w]
          refine wpList_plain rfl (fun Ko hKo => ?_)
          go_simp
          refine hKo _ _ ?_
          clear hKo Ko
          try simp only [Act.put, nm1, nm2, nm3, i64_w]
          refine wpList_nil ?_
          (try simp only [Exit.then, Exit.inBlock, ↓reduceIte, Nat.reduceEqDiff])
          refine hK213 _ _ ?_
          by_cases c230 : (t222 == t226) = true
          ·
           rw [if_pos c230] at H
           have c230n : (t222 != t226) = false := by rw [bne, c230]; rfl
           replace H := Option.bind_eq_some_iff.mp H
           obtain ⟨t231, A234, H⟩ := H
           replace A234 := Aside0.mk A234
           try dsimp only at H
           have HL237 := Aside0.mk H
           clear H
           try simp only [c230, c230n, Bool.not_true, Bool.not_false]
           refine wp_cond_true rfl ?_
           refine wp_region_lit ?_
           refine wpList_plain rfl (fun Ko hKo => ?_)
           go_simp
           refine hKo _ _ ?_
           clear hKo Ko
           try simp only [Act.put, nm1, nm2, nm3, i64_w]
           have cl0 := (hb212.up ((hu217.out.trans hu225.out).trans hu229.out)).cell (o := 0) rfl
           have cl1 := (hb212.up ((hu217.out.trans hu225.out).trans hu229.out)).cell (o := 1) rfl
           have cl2 := (hb212.up ((hu217.out.trans hu225.out).trans hu229.out)).cell (o := 2) rfl
           have cl3 := (hb212.up ((hu217.out.trans hu225.out).trans hu229.out)).cell (o := 3) rfl
           have cl4 := (hb212.up ((hu217.out.trans hu225.out).trans hu229.out)).cell (o := 4) rfl
           have cl5 := (hb212.up ((hu217.out.trans hu225.out).trans hu229.out)).cell (o := 5) rfl
           refine wpList_plain rfl (fun Ko hKo => ?_)
           go_simp
           refine hKo _ _ ?_
           clear hKo Ko
           clear cl0 cl1 cl2 cl3 cl4 cl5
           try simp only [Act.put, nm1, nm2, nm3, i64_w]
           refine step_call (wanted_none rfl) (by first | (go_simp; done) | (go_simp; rfl)) (spec_l07Put.calls K P31 q32 x30 x10 t199 x29 t203 0 0 t231 w228 ((h37.up (((((((hu194.out.trans hu202.out).trans hu206.out).trans hu209.out).sto (Nat.le_trans ((Nat.le_trans ((Nat.le_trans (hu194.out.size) hu202.out.size)) hu206.out.size)) lbb207.out) hs211.out).trans hu217.out).trans hu225.out).trans hu229.out)).rd) (Own.cap (h37.up (((((((hu194.out.trans hu202.out).trans hu206.out).trans hu209.out).sto (Nat.le_trans ((Nat.le_trans ((Nat.le_trans (hu194.out.size) hu202.out.size)) hu206.out.size)) lbb207.out) hs211.out).trans hu217.out).trans hu225.out).trans hu229.out))) A234.out) ?_
           rintro e w235 ⟨P232, q233, rfl, ht231, hu⟩
           have hu236 := Aside0.mk hu
           clear hu
           refine ⟨_, rfl, ?_⟩
           simp only [Act.put, nm1, nm2, nm3, i64_w]
           refine wpList_plain rfl (fun Ko hKo => ?_)
           go_simp
           refine hKo _ _ ?_
           clear hKo Ko
           try simp only [Act.put, nm1, nm2, nm3, i64_w]
           refine wpList_nil ?_
           (try simp only [Exit.then, Exit.inBlock, ↓reduceIte, Nat.reduceEqDiff])
           refine hK46 _ _ ?_
           refine wp_region_lit ?_
           refine wpList_plain rfl (fun Ko hKo => ?_)
           go_simp
           refine hKo _ _ ?_
           clear hKo Ko
           try simp only [Act.put, nm1, nm2, nm3, i64_w]
           refine wpList_plain rfl (fun Ko hKo => ?_)
           go_simp
           refine hKo _ _ ?_
           clear hKo Ko
           try simp only [Act.put, nm1, nm2, nm3, i64_w]
           refine wpList_plain rfl (fun Ko hKo => ?_)
           go_simp
           refine hKo _ _ ?_
           clear hKo Ko
           try simp only [Act.put, nm1, nm2, nm3, i64_w]
           refine wpList_nil ?_
           (try simp only [Exit.then, Exit.inBlock, ↓reduceIte, Nat.reduceEqDiff])
           refine hK42 _ _ ?_
           go_roundg k38
           case measure => exact Nat.lt_succ_self _
           case rel => exact ⟨wrap64 (x29 + 1), t231, P232, q233, (by first | rfl | simp), (by first | rfl | simp), HL237, ⟨by have := hk20.out; have := hk39.out; omega⟩, ⟨(((hm219.out.trans hu225.out).trans hu229.out).trans hu236.out)⟩, ⟨(Nat.le_trans ((Nat.le_trans ((Nat.le_trans (hm221.out) hu225.out.size)) hu229.out.size)) hu236.out.size)⟩, (ht231.lower ((Nat.le_trans ((Nat.le_trans (hm220.out) hu225.out.size)) hu229.out.size)))⟩
          ·
           rw [if_neg c230] at H
           replace c230 := Bool.eq_false_iff.mpr c230
           have c230n : (t222 != t226) = true := by rw [bne, c230]; rfl
           have c230p : ¬ t222 = t226 := fun e => by simp [e] at c230
           have HL238 := Aside0.mk H
           clear H
           try simp only [c230, c230n, Bool.not_true, Bool.not_false]
           refine wp_cond_false rfl ?_
           refine wp_skip ?_
           (try simp only [Exit.then, Exit.inBlock, ↓reduceIte, Nat.reduceEqDiff])
           refine hK46 _ _ ?_
           refine wp_region_lit ?_
           refine wpList_plain rfl (fun Ko hKo => ?_)
           go_simp
           refine hKo _ _ ?_
           clear hKo Ko
           try simp only [Act.put, nm1, nm2, nm3, i64_w]
           refine wpList_plain rfl (fun Ko hKo => ?_)
           go_simp
           refine hKo _ _ ?_
           clear hKo Ko
           try simp only [Act.put, nm1, nm2, nm3, i64_w]
           refine wpList_plain rfl (fun Ko hKo => ?_)
           go_simp
           refine hKo _ _ ?_
           clear hKo Ko
           try simp only [Act.put, nm1, nm2, nm3, i64_w]
           refine wpList_nil ?_
           (try simp only [Exit.then, Exit.inBlock, ↓reduceIte, Nat.reduceEqDiff])
           refine hK42 _ _ ?_
           go_roundg k38
           case measure => exact Nat.lt_succ_self _
           case rel => exact ⟨wrap64 (x29 + 1), x30, P31, q32, (by first | rfl | simp), (by first | rfl | simp), HL238, ⟨by have := hk20.out; have := hk39.out; omega⟩, ⟨((hm219.out.trans hu225.out).trans hu229.out)⟩, ⟨(Nat.le_trans ((Nat.le_trans (hm221.out) hu225.out.size)) hu229.out.size)⟩, (h37.up (((((((hu194.out.trans hu202.out).trans hu206.out).trans hu209.out).sto (Nat.le_trans ((Nat.le_trans ((Nat.le_trans (hu194.out.size) hu202.out.size)) hu206.out.size)) lbb207.out) hs211.out).trans hu217.out).trans hu225.out).trans hu229.out))⟩
         ·
          rw [if_neg c218] at H
          replace c218 := Bool.eq_false_iff.mpr c218
          subst c218
          have HL239 := Aside0.mk H
          clear H
          refine step_no rfl ?_
          simp only [Act.put, nm1, nm2, nm3, i64_w]
          refine step_no rfl ?_
          simp only [Act.put, nm1, nm2, nm3, i64_w]
          refine step_no rfl ?_
          simp only [Act.put, nm1, nm2, nm3, i64_w]
          refine step_no rfl ?_
          simp only [Act.put, nm1, nm2, nm3, i64_w]
          refine step_no rfl ?_
          simp only [Act.put, nm1, nm2, nm3, i64_w]
          refine step_no rfl ?_
          simp only [Act.put, nm1, nm2, nm3, i64_w]
          refine step_no rfl ?_
          simp only [Act.put, nm1, nm2, nm3, i64_w]
          refine wpList_plain rfl (fun Ko hKo => ?_)
          go_simp
          refine hKo _ _ ?_
          clear hKo Ko
          try simp only [Act.put, nm1, nm2, nm3, i64_w]
          refine wpList_nil ?_
          (try simp only [Exit.then, Exit.inBlock, ↓reduceIte, Nat.reduceEqDiff])
          refine hK213 _ _ ?_
          refine wp_cond_false rfl ?_
          refine wp_skip ?_
          (try simp only [Exit.then, Exit.inBlock, ↓reduceIte, Nat.reduceEqDiff])
          refine hK46 _ _ ?_
          refine wp_region_lit ?_
          refine wpList_plain rfl (fun Ko hKo => ?_)
          go_simp
          refine hKo _ _ ?_
          clear hKo Ko
          try simp only [Act.put, nm1, nm2, nm3, i64_w]
          refine wpList_plain rfl (fun Ko hKo => ?_)
          go_simp
          refine hKo _ _ ?_
          clear hKo Ko
          try simp only [Act.put, nm1, nm2, nm3, i64_w]
          refine wpList_plain rfl (fun Ko hKo => ?_)
          go_simp
          refine hKo _ _ ?_
          clear hKo Ko
          try simp only [Act.put, nm1, nm2, nm3, i64_w]
          refine wpList_nil ?_
          (try simp only [Exit.then, Exit.inBlock, ↓reduceIte, Nat.reduceEqDiff])
          refine hK42 _ _ ?_
          go_roundg k38
          case measure => exact Nat.lt_succ_self _
          case rel => exact ⟨wrap64 (x29 + 1), x30, P31, q32, (by first | rfl | simp), (by first | rfl | simp), HL239, ⟨by have := hk20.out; have := hk39.out; omega⟩, ⟨hm219.out⟩, ⟨hm221.out⟩, (h37.up (((((hu194.out.trans hu202.out).trans hu206.out).trans hu209.out).sto (Nat.le_trans ((Nat.le_trans ((Nat.le_trans (hu194.out.size) hu202.out.size)) hu206.out.size)) lbb207.out) hs211.out).trans hu217.out))⟩
        ·
         rw [if_neg c196] at H
         replace c196 := Bool.eq_false_iff.mpr c196
         have c196n : (x29 != 0) = true := by rw [bne, c196]; rfl
         have c196p : ¬ x29 = 0 := fun e => by simp [e] at c196
         replace H := Option.bind_eq_some_iff.mp H
         obtain ⟨t240, A241, H⟩ := H
         replace A241 := Aside0.mk A241
         try dsimp only at H
         replace H := Option.bind_eq_some_iff.mp H
         obtain ⟨t245, A246, H⟩ := H
         replace A246 := Aside0.mk A246
         try dsimp only at H
         replace H := Option.bind_eq_some_iff.mp H
         obtain ⟨t249, A250, H⟩ := H
         replace A250 := Aside0.mk A250
         try dsimp only at H
         replace H := Option.bind_eq_some_iff.mp H
         obtain ⟨t260, A261, H⟩ := H
         replace A261 := Aside0.mk A261
         try dsimp only at H
         try simp only [c196, c196n, Bool.not_true, Bool.not_false]
         refine wp_cond_true rfl ?_
         refine wp_region_lit ?_
         refine wpList_plain rfl (fun Ko hKo => ?_)
         go_simp
         refine hKo _ _ ?_
         clear hKo Ko
         try simp only [Act.put, nm1, nm2, nm3, i64_w]
         refine wpList_plain rfl (fun Ko hKo => ?_)
         go_simp
         refine hKo _ _ ?_
         clear hKo Ko
         try simp only [Act.put, nm1, nm2, nm3, i64_w]
         refine step_call (wanted_none rfl) (by first | (go_simp; done) | (go_simp; rfl)) (spec_l01Inverse.calls K x29 a0 t240 w193  A241.out) ?_
         rintro e w242 ⟨rfl, hu⟩
         have hu243 := Aside0.mk hu
         clear hu
         refine ⟨_, rfl, ?_⟩
         simp only [Act.put, nm1, nm2, nm3, i64_w]
         refine wpList_plain rfl (fun Ko hKo => ?_)
         go_simp
         refine hKo _ _ ?_
         clear hKo Ko
         try simp only [Act.put, nm1, nm2, nm3, i64_w]
         refine wpList_nil ?_
         (try simp only [Exit.then, Exit.inBlock, ↓reduceIte, Nat.reduceEqDiff])
         refine hK48 _ _ ?_
         refine wp_seq_k (fun K244 hK244 => ?_)
         refine wp_region_lit ?_
         refine wpList_plain rfl (fun Ko hKo => ?_)
         go_simp
         refine hKo _ _ ?_
         clear hKo Ko
         try simp only [Act.put, nm1, nm2, nm3, i64_w]
         refine wpList_plain rfl (fun Ko hKo => ?_)
         go_simp
         refine hKo _ _ ?_
         clear hKo Ko
         try simp only [Act.put, nm1, nm2, nm3, i64_w]
         refine wpList_plain rfl (fun Ko hKo => ?_)
         go_simp
         refine hKo _ _ ?_
         clear hKo Ko
         try simp only [Act.put, nm1, nm2, nm3, i64_w]
         refine step_call (wanted_none rfl) (by first | (go_simp; done) | (go_simp; rfl)) (spec_l01Mod.calls K t240 a0 t245 w242  A246.out) ?_
         rintro e w247 ⟨rfl, hu⟩
         have hu248 := Aside0.mk hu
         clear hu
         refine ⟨_, rfl, ?_⟩
         simp only [Act.put, nm1, nm2, nm3, i64_w]
         refine wpList_plain rfl (fun Ko hKo => ?_)
         go_simp
         refine hKo _ _ ?_
         clear hKo Ko
         try simp only [Act.put, nm1, nm2, nm3, i64_w]
         refine wpList_plain rfl (fun Ko hKo => ?_)
         go_simp
         refine hKo _ _ ?_
         clear hKo Ko
         try simp only [Act.put, nm1, nm2, nm3, i64_w]
         refine wpList_plain rfl (fun Ko hKo => ?_)
         go_simp
         refine hKo _ _ ?_
         clear hKo Ko
         try simp only [Act.put, nm1, nm2, nm3, i64_w]
         refine step_call (wanted_none rfl) (by first | (go_simp; done) | (go_simp; rfl)) (spec_l01Mod.calls K t191 a0 t249 w247  A250.out) ?_
         rintro e w251 ⟨rfl, hu⟩
         have hu252 := Aside0.mk hu
         clear hu
         refine ⟨_, rfl, ?_⟩
         simp only [Act.put, nm1, nm2, nm3, i64_w]
         refine wpList_plain rfl (fun Ko hKo => ?_)
         go_simp
         refine hKo _ _ ?_
         clear hKo Ko
         try simp only [Act.put, nm1, nm2, nm3, i64_w]
         refine wpList_plain rfl (fun Ko hKo => ?_)
         go_simp
         refine hKo _ _ ?_
         clear hKo Ko
         try simp only [Act.put, nm1, nm2, nm3, i64_w]
         refine step_new (cs := [.int .i64 0, .int .i64 0, .int .i64 0, .int .i64 0, .int .i64 0, .int .i64 0]) (T := 30) (f := fun b => .pointer (some ⟨b, 0, none⟩)) rfl (by first | (go_simp; done) | (go_simp; rfl)) ?_
         intro b253 w254 hu lb hb253
         simp only [Act.put, nm1, nm2, nm3, i64_w]
         have lbb253 := Aside0.mk lb
         have ltb253 := Aside0.mk hb253.lt
         clear lb
         have hu255 := Aside0.mk hu
         clear hu
         have hB0 := hb253
         have cl0 := hB0.cell (o := 0) rfl
         have fr0 := hB0.free 0
         have cl1 := hB0.cell (o := 1) rfl
         have fr1 := hB0.free 1
         have cl2 := hB0.cell (o := 2) rfl
         have fr2 := hB0.free 2
         have cl3 := hB0.cell (o := 3) rfl
         have fr3 := hB0.free 3
         have cl4 := hB0.cell (o := 4) rfl
         have fr4 := hB0.free 4
         have cl5 := hB0.cell (o := 5) rfl
         have fr5 := hB0.free 5
         refine step_store (b := b253) (cs' := [.int .i64 x10, .int .i64 t245, .int .i64 x29, .int .i64 t249, .int .i64 0, .int .i64 0]) (T := 30) (W' := ((((((w254.setCell ⟨b253, 0, none⟩ (.int .i64 x10)).setCell ⟨b253, 1, none⟩ (.int .i64 t245)).setCell ⟨b253, 2, none⟩ (.int .i64 x29)).setCell ⟨b253, 3, none⟩ (.int .i64 t249)).setCell ⟨b253, 4, none⟩ (.int .i64 0)).setCell ⟨b253, 5, none⟩ (.int .i64 0))) rfl rfl (by first | (go_simp; done) | (go_simp; rfl)) (((((((Sto.refl _ _).setCell 0 _).setCell 1 _).setCell 2 _).setCell 3 _).setCell 4 _).setCell 5 _) (((((((hB0).setCell 0 _).setCell 1 _).setCell 2 _).setCell 3 _).setCell 4 _).setCell 5 _) ?_
         clear hB0 cl0 fr0 cl1 fr1 cl2 fr2 cl3 fr3 cl4 fr4 cl5 fr5
         intro w256 hs hb258
         have hs257 := Aside0.mk hs
         clear hs
         refine wpList_nil ?_
         (try simp only [Exit.then, Exit.inBlock, ↓reduceIte, Nat.reduceEqDiff])
         refine hK244 _ _ ?_
         refine wp_seq_k (fun K259 hK259 => ?_)
         refine wp_region_lit ?_
         refine wpList_plain rfl (fun Ko hKo => ?_)
         go_simp
         refine hKo _ _ ?_
         clear hKo Ko
         try simp only [Act.put, nm1, nm2, nm3, i64_w]
         refine wpList_plain rfl (fun Ko hKo => ?_)
         go_simp
         refine hKo _ _ ?_
         clear hKo Ko
         try simp only [Act.put, nm1, nm2, nm3, i64_w]
         have cl0 := hb258.cell (o := 0) rfl
         have cl1 := hb258.cell (o := 1) rfl
         have cl2 := hb258.cell (o := 2) rfl
         have cl3 := hb258.cell (o := 3) rfl
         have cl4 := hb258.cell (o := 4) rfl
         have cl5 := hb258.cell (o := 5) rfl
         refine wpList_plain rfl (fun Ko hKo => ?_)
         go_simp
         refine hKo _ _ ?_
         clear hKo Ko
         clear cl0 cl1 cl2 cl3 cl4 cl5
         try simp only [Act.put, nm1, nm2, nm3, i64_w]
         refine step_call (wanted_none rfl) (by first | (go_simp; done) | (go_simp; rfl)) (spec_l07Good.calls K a0 a1 x10 t245 x29 t249 0 0 t260 w256  A261.out) ?_
         rintro e w262 ⟨rfl, hu⟩
         have hu263 := Aside0.mk hu
         clear hu
         refine ⟨_, rfl, ?_⟩
         simp only [Act.put, nm1, nm2, nm3, i64_w]
         refine wpList_plain rfl (fun Ko hKo => ?_)
         go_simp
         refine hKo _ _ ?_
         clear hKo Ko
         try simp only [Act.put, nm1, nm2, nm3, i64_w]
         have hm265 := Aside0.mk (((((((hu34.out.trans hu194.out).trans hu243.out).trans hu248.out).trans hu252.out).trans hu255.out).sto (Nat.le_trans ((Nat.le_trans ((Nat.le_trans ((Nat.le_trans (hm197.out) hu243.out.size)) hu248.out.size)) hu252.out.size)) lbb253.out) hs257.out).trans hu263.out)
         have hm266 := Aside0.mk (Nat.le_trans ((Nat.le_trans ((Nat.le_trans ((Nat.le_trans ((Nat.le_trans ((Nat.le_trans (hm197.out) hu243.out.size)) hu248.out.size)) hu252.out.size)) hu255.out.size)) (Nat.le_of_eq hs257.out.size.symm))) hu263.out.size)
         have hm267 := Aside0.mk (Nat.le_trans ((Nat.le_trans ((Nat.le_trans ((Nat.le_trans ((Nat.le_trans ((Nat.le_trans ((Nat.le_trans ((Nat.le_trans (Nat.le_refl _) hz35.out)) hu194.out.size)) hu243.out.size)) hu248.out.size)) hu252.out.size)) hu255.out.size)) (Nat.le_of_eq hs257.out.size.symm))) hu263.out.size)
         by_cases c264 : (t260) = true
         ·
          rw [if_pos c264] at H
          subst c264
          replace H := Option.bind_eq_some_iff.mp H
          obtain ⟨t268, A269, H⟩ := H
          replace A269 := Aside0.mk A269
          try dsimp only at H
          replace H := Option.bind_eq_some_iff.mp H
          obtain ⟨t272, A273, H⟩ := H
          replace A273 := Aside0.mk A273
          try dsimp only at H
          refine wpList_step (fun Ko hKo => ?_)
          go_simp
          refine hKo _ _ ?_
          clear hKo Ko
          try simp only [Act.put, nm1, nm2, nm3, i64_w]
          have cl0 := (hb258.up hu263.out).cell (o := 0) rfl
          have cl1 := (hb258.up hu263.out).cell (o := 1) rfl
          have cl2 := (hb258.up hu263.out).cell (o := 2) rfl
          have cl3 := (hb258.up hu263.out).cell (o := 3) rfl
          have cl4 := (hb258.up hu263.out).cell (o := 4) rfl
          have cl5 := (hb258.up hu263.out).cell (o := 5) rfl
          refine wpList_step (fun Ko hKo => ?_)
          go_simp
          refine hKo _ _ ?_
          clear hKo Ko
          clear cl0 cl1 cl2 cl3 cl4 cl5
          try simp only [Act.put, nm1, nm2, nm3, i64_w]
          refine step_call rfl (by first | (go_simp; done) | (go_simp; rfl)) (spec_l07Sign.calls K a0 x10 t245 x29 t249 0 0 t268 w262  A269.out) ?_
          rintro e w270 ⟨rfl, hu⟩
          have hu271 := Aside0.mk hu
          clear hu
          refine ⟨_, rfl, ?_⟩
          simp only [Act.put, nm1, nm2, nm3, i64_w]
          refine wpList_step (fun Ko hKo => ?_)
          go_simp
          refine hKo _ _ ?_
          clear hKo Ko
          try simp only [Act.put, nm1, nm2, nm3, i64_w]
          refine wpList_step (fun Ko hKo => ?_)
          go_simp
          refine hKo _ _ ?_
          clear hKo Ko
          try simp only [Act.put, nm1, nm2, nm3, i64_w]
          refine step_call rfl (by first | (go_simp; done) | (go_simp; rfl)) (spec_l01Mod.calls K a2 a0 t272 w270  A273.out) ?_
          rintro e w274 ⟨rfl, hu⟩
          have hu275 := Aside0.mk hu
          clear hu
          refine ⟨_, rfl, ?_⟩
          simp only [Act.put, nm1, nm2, nm3, i64_w]
          refine wpList_step (fun Ko hKo => ?_)
          go_simp
          refine hKo _ _ ?_
          clear hKo Ko
          try simp only [Act.put, nm1, nm2, nm3, i64_w]
          refine wpList_plain rfl (fun Ko hKo => ?_)
          go_simp
          refine hKo _ _ ?_
          clear hKo Ko
          try simp only [Act.put, nm1, nm2, nm3, i64_w]
          refine wpList_nil ?_
          (try simp only [Exit.then, Exit.inBlock, ↓reduceIte, Nat.reduceEqDiff])
          refine hK259 _ _ ?_
          by_cases c276 : (t268 == t272) = true
          ·
           rw [if_pos c276] at H
           have c276n : (t268 != t272) = false := by rw [bne, c276]; rfl
           replace H := Option.bind_eq_some_iff.mp H
           obtain ⟨t277, A280, H⟩ := H
           replace A280 := Aside0.mk A280
           try dsimp only at H
           have HL283 := Aside0.mk H
           clear H
           try simp only [c276, c276n, Bool.not_true, Bool.not_false]
           refine wp_cond_true rfl ?_
           refine wp_region_lit ?_
           refine wpList_plain rfl (fun Ko hKo => ?_)
           go_simp
           refine hKo _ _ ?_
           clear hKo Ko
           try simp only [Act.put, nm1, nm2, nm3, i64_w]
           have cl0 := (hb258.up ((hu263.out.trans hu271.out).trans hu275.out)).cell (o := 0) rfl
           have cl1 := (hb258.up ((hu263.out.trans hu271.out).trans hu275.out)).cell (o := 1) rfl
           have cl2 := (hb258.up ((hu263.out.trans hu271.out).trans hu275.out)).cell (o := 2) rfl
           have cl3 := (hb258.up ((hu263.out.trans hu271.out).trans hu275.out)).cell (o := 3) rfl
           have cl4 := (hb258.up ((hu263.out.trans hu271.out).trans hu275.out)).cell (o := 4) rfl
           have cl5 := (hb258.up ((hu263.out.trans hu271.out).trans hu275.out)).cell (o := 5) rfl
           refine wpList_plain rfl (fun Ko hKo => ?_)
           go_simp
           refine hKo _ _ ?_
           clear hKo Ko
           clear cl0 cl1 cl2 cl3 cl4 cl5
           try simp only [Act.put, nm1, nm2, nm3, i64_w]
           refine step_call (wanted_none rfl) (by first | (go_simp; done) | (go_simp; rfl)) (spec_l07Put.calls K P31 q32 x30 x10 t245 x29 t249 0 0 t277 w274 ((h37.up ((((((((hu194.out.trans hu243.out).trans hu248.out).trans hu252.out).trans hu255.out).sto (Nat.le_trans ((Nat.le_trans ((Nat.le_trans ((Nat.le_trans (hu194.out.size) hu243.out.size)) hu248.out.size)) hu252.out.size)) lbb253.out) hs257.out).trans hu263.out).trans hu271.out).trans hu275.out)).rd) (Own.cap (h37.up ((((((((hu194.out.trans hu243.out).trans hu248.out).trans hu252.out).trans hu255.out).sto (Nat.le_trans ((Nat.le_trans ((Nat.le_trans ((Nat.le_trans (hu194.out.size) hu243.out.size)) hu248.out.size)) hu252.out.size)) lbb253.out) hs257.out).trans hu263.out).trans hu271.out).trans hu275.out))) A280.out) ?_
           rintro e w281 ⟨P278, q279, rfl, ht277, hu⟩
           have hu282 := Aside0.mk hu
           clear hu
           refine ⟨_, rfl, ?_⟩
           simp only [Act.put, nm1, nm2, nm3, i64_w]
           refine wpList_plain rfl (fun Ko hKo => ?_)
           go_simp
           refine hKo _ _ ?_
           clear hKo Ko
           try simp only [Act.put, nm1, nm2, nm3, i64_w]
           refine wpList_nil ?_
           (try simp only [Exit.then, Exit.inBlock, ↓reduceIte, Nat.reduceEqDiff])
           refine hK46 _ _ ?_
           refine wp_region_lit ?_
           refine wpList_plain rfl (fun Ko hKo => ?_)
           go_simp
           refine hKo _ _ ?_
           clear hKo Ko
           try simp only [Act.put, nm1, nm2, nm3, i64_w]
           refine wpList_plain rfl (fun Ko hKo => ?_)
           go_simp
           refine hKo _ _ ?_
           clear hKo Ko
           try simp only [Act.put, nm1, nm2, nm3, i64_w]
           refine wpList_plain rfl (fun Ko hKo => ?_)
           go_simp
           refine hKo _ _ ?_
           clear hKo Ko
           try simp only [Act.put, nm1, nm2, nm3, i64_w]
           refine wpList_nil ?_
           (try simp only [Exit.then, Exit.inBlock, ↓reduceIte, Nat.reduceEqDiff])
           refine hK42 _ _ ?_
           go_roundg k38
           case measure => exact Nat.lt_succ_self _
           case rel => exact ⟨wrap64 (x29 + 1), t277, P278, q279, (by first | rfl | simp), (by first | rfl | simp), HL283, ⟨by have := hk20.out; have := hk39.out; omega⟩, ⟨(((hm265.out.trans hu271.out).trans hu275.out).trans hu282.out)⟩, ⟨(Nat.le_trans ((Nat.le_trans ((Nat.le_trans (hm267.out) hu271.out.size)) hu275.out.size)) hu282.out.size)⟩, (ht277.lower ((Nat.le_trans ((Nat.le_trans (hm266.out) hu271.out.size)) hu275.out.size)))⟩
          ·
           rw [if_neg c276] at H
           replace c276 := Bool.eq_false_iff.mpr c276
           have c276n : (t268 != t272) = true := by rw [bne, c276]; rfl
           have c276p : ¬ t268 = t272 := fun e => by simp [e] at c276
           have HL284 := Aside0.mk H
           clear H
           try simp only [c276, c276n, Bool.not_true, Bool.not_false]
           refine wp_cond_false rfl ?_
           refine wp_skip ?_
           (try simp only [Exit.then, Exit.inBlock, ↓reduceIte, Nat.reduceEqDiff])
           refine hK46 _ _ ?_
           refine wp_region_lit ?_
           refine wpList_plain rfl (fun Ko hKo => ?_)
           go_simp
           refine hKo _ _ ?_
           clear hKo Ko
           try simp only [Act.put, nm1, nm2, nm3, i64_w]
           refine wpList_plain rfl (fun Ko hKo => ?_)
           go_simp
           refine hKo _ _ ?_
           clear hKo Ko
           try simp only [Act.put, nm1, nm2, nm3, i64_w]
           refine wpList_plain rfl (fun Ko hKo => ?_)
           go_simp
           refine hKo _ _ ?_
           clear hKo Ko
           try simp only [Act.put, nm1, nm2, nm3, i64_w]
           refine wpList_nil ?_
           (try simp only [Exit.then, Exit.inBlock, ↓reduceIte, Nat.reduceEqDiff])
           refine hK42 _ _ ?_
           go_roundg k38
           case measure => exact Nat.lt_succ_self _
           case rel => exact ⟨wrap64 (x29 + 1), x30, P31, q32, (by first | rfl | simp), (by first | rfl | simp), HL284, ⟨by have := hk20.out; have := hk39.out; omega⟩, ⟨((hm265.out.trans hu271.out).trans hu275.out)⟩, ⟨(Nat.le_trans ((Nat.le_trans (hm267.out) hu271.out.size)) hu275.out.size)⟩, (h37.up ((((((((hu194.out.trans hu243.out).trans hu248.out).trans hu252.out).trans hu255.out).sto (Nat.le_trans ((Nat.le_trans ((Nat.le_trans ((Nat.le_trans (hu194.out.size) hu243.out.size)) hu248.out.size)) hu252.out.size)) lbb253.out) hs257.out).trans hu263.out).trans hu271.out).trans hu275.out))⟩
         ·
          rw [if_neg c264] at H
          replace c264 := Bool.eq_false_iff.mpr c264
          subst c264
          have HL285 := Aside0.mk H
          clear H
          refine step_no rfl ?_
          simp only [Act.put, nm1, nm2, nm3, i64_w]
          refine step_no rfl ?_
          simp only [Act.put, nm1, nm2, nm3, i64_w]
          refine step_no rfl ?_
          simp only [Act.put, nm1, nm2, nm3, i64_w]
          refine step_no rfl ?_
          simp only [Act.put, nm1, nm2, nm3, i64_w]
          refine step_no rfl ?_
          simp only [Act.put, nm1, nm2, nm3, i64_w]
          refine step_no rfl ?_
          simp only [Act.put, nm1, nm2, nm3, i64_w]
          refine step_no rfl ?_
          simp only [Act.put, nm1, nm2, nm3, i64_w]
          refine wpList_plain rfl (fun Ko hKo => ?_)
          go_simp
          refine hKo _ _ ?_
          clear hKo Ko
          try simp only [Act.put, nm1, nm2, nm3, i64_w]
          refine wpList_nil ?_
          (try simp only [Exit.then, Exit.inBlock, ↓reduceIte, Nat.reduceEqDiff])
          refine hK259 _ _ ?_
          refine wp_cond_false rfl ?_
          refine wp_skip ?_
          (try simp only [Exit.then, Exit.inBlock, ↓reduceIte, Nat.reduceEqDiff])
          refine hK46 _ _ ?_
          refine wp_region_lit ?_
          refine wpList_plain rfl (fun Ko hKo => ?_)
          go_simp
          refine hKo _ _ ?_
          clear hKo Ko
          try simp only [Act.put, nm1, nm2, nm3, i64_w]
          refine wpList_plain rfl (fun Ko hKo => ?_)
          go_simp
          refine hKo _ _ ?_
          clear hKo Ko
          try simp only [Act.put, nm1, nm2, nm3, i64_w]
          refine wpList_plain rfl (fun Ko hKo => ?_)
          go_simp
          refine hKo _ _ ?_
          clear hKo Ko
          try simp only [Act.put, nm1, nm2, nm3, i64_w]
          refine wpList_nil ?_
          (try simp only [Exit.then, Exit.inBlock, ↓reduceIte, Nat.reduceEqDiff])
          refine hK42 _ _ ?_
          go_roundg k38
          case measure => exact Nat.lt_succ_self _
          case rel => exact ⟨wrap64 (x29 + 1), x30, P31, q32, (by first | rfl | simp), (by first | rfl | simp), HL285, ⟨by have := hk20.out; have := hk39.out; omega⟩, ⟨hm265.out⟩, ⟨hm267.out⟩, (h37.up ((((((hu194.out.trans hu243.out).trans hu248.out).trans hu252.out).trans hu255.out).sto (Nat.le_trans ((Nat.le_trans ((Nat.le_trans ((Nat.le_trans (hu194.out.size) hu243.out.size)) hu248.out.size)) hu252.out.size)) lbb253.out) hs257.out).trans hu263.out))⟩
      ·
       rw [if_neg c95] at H
       replace c95 := Bool.eq_false_iff.mpr c95
       have c95n : (a1 != 2) = true := by rw [bne, c95]; rfl
       have c95p : ¬ a1 = 2 := fun e => by simp [e] at c95
       replace H := Option.bind_eq_some_iff.mp H
       obtain ⟨t287, A288, H⟩ := H
       replace A288 := Aside0.mk A288
       try dsimp only at H
       replace H := Option.bind_eq_some_iff.mp H
       obtain ⟨t291, A292, H⟩ := H
       replace A292 := Aside0.mk A292
       try dsimp only at H
       replace H := Option.bind_eq_some_iff.mp H
       obtain ⟨t302, A303, H⟩ := H
       replace A303 := Aside0.mk A303
       try dsimp only at H
       try simp only [c95, c95n, Bool.not_true, Bool.not_false]
       refine wp_cond_false rfl ?_
       refine wp_skip ?_
       (try simp only [Exit.then, Exit.inBlock, ↓reduceIte, Nat.reduceEqDiff])
       refine hK48 _ _ ?_
       refine wp_seq_k (fun K286 hK286 => ?_)
       refine wp_region_lit ?_
       refine wpList_plain rfl (fun Ko hKo => ?_)
       go_simp
       refine hKo _ _ ?_
       clear hKo Ko
       try simp only [Act.put, nm1, nm2, nm3, i64_w]
       refine wpList_plain rfl (fun Ko hKo => ?_)
       go_simp
       refine hKo _ _ ?_
       clear hKo Ko
       try simp only [Act.put, nm1, nm2, nm3, i64_w]
       refine wpList_plain rfl (fun Ko hKo => ?_)
       go_simp
       refine hKo _ _ ?_
       clear hKo Ko
       try simp only [Act.put, nm1, nm2, nm3, i64_w]
       refine step_call (wanted_none rfl) (by first | (go_simp; done) | (go_simp; rfl)) (spec_l01Mod.calls K (wrap64 (a2 * x29)) a0 t287 w33  A288.out) ?_
       rintro e w289 ⟨rfl, hu⟩
       have hu290 := Aside0.mk hu
       clear hu
       refine ⟨_, rfl, ?_⟩
       simp only [Act.put, nm1, nm2, nm3, i64_w]
       refine wpList_plain rfl (fun Ko hKo => ?_)
       go_simp
       refine hKo _ _ ?_
       clear hKo Ko
       try simp only [Act.put, nm1, nm2, nm3, i64_w]
       refine wpList_plain rfl (fun Ko hKo => ?_)
       go_simp
       refine hKo _ _ ?_
       clear hKo Ko
       try simp only [Act.put, nm1, nm2, nm3, i64_w]
       refine wpList_plain rfl (fun Ko hKo => ?_)
       go_simp
       refine hKo _ _ ?_
       clear hKo Ko
       try simp only [Act.put, nm1, nm2, nm3, i64_w]
       refine step_call (wanted_none rfl) (by first | (go_simp; done) | (go_simp; rfl)) (spec_l01Mod.calls K (wrap64 (a2 * x10)) a0 t291 w289  A292.out) ?_
       rintro e w293 ⟨rfl, hu⟩
       have hu294 := Aside0.mk hu
       clear hu
       refine ⟨_, rfl, ?_⟩
       simp only [Act.put, nm1, nm2, nm3, i64_w]
       refine wpList_plain rfl (fun Ko hKo => ?_)
       go_simp
       refine hKo _ _ ?_
       clear hKo Ko
       try simp only [Act.put, nm1, nm2, nm3, i64_w]
       refine wpList_plain rfl (fun Ko hKo => ?_)
       go_simp
       refine hKo _ _ ?_
       clear hKo Ko
       try simp only [Act.put, nm1, nm2, nm3, i64_w]
       refine step_new (cs := [.int .i64 0, .int .i64 0, .int .i64 0, .int .i64 0, .int .i64 0, .int .i64 0]) (T := 30) (f := fun b => .pointer (some ⟨b, 0, none⟩)) rfl (by first | (go_simp; done) | (go_simp; rfl)) ?_
       intro b295 w296 hu lb hb295
       simp only [Act.put, nm1, nm2, nm3, i64_w]
       have lbb295 := Aside0.mk lb
       have ltb295 := Aside0.mk hb295.lt
       clear lb
       have hu297 := Aside0.mk hu
       clear hu
       have hB0 := hb295
       have cl0 := hB0.cell (o := 0) rfl
       have fr0 := hB0.free 0
       have cl1 := hB0.cell (o := 1) rfl
       have fr1 := hB0.free 1
       have cl2 := hB0.cell (o := 2) rfl
       have fr2 := hB0.free 2
       have cl3 := hB0.cell (o := 3) rfl
       have fr3 := hB0.free 3
       have cl4 := hB0.cell (o := 4) rfl
       have fr4 := hB0.free 4
       have cl5 := hB0.cell (o := 5) rfl
       have fr5 := hB0.free 5
       refine step_store (b := b295) (cs' := [.int .i64 x10, .int .i64 t287, .int .i64 x29, .int .i64 t291, .int .i64 0, .int .i64 0]) (T := 30) (W' := ((((((w296.setCell ⟨b295, 0, none⟩ (.int .i64 x10)).setCell ⟨b295, 1, none⟩ (.int .i64 t287)).setCell ⟨b295, 2, none⟩ (.int .i64 x29)).setCell ⟨b295, 3, none⟩ (.int .i64 t291)).setCell ⟨b295, 4, none⟩ (.int .i64 0)).setCell ⟨b295, 5, none⟩ (.int .i64 0))) rfl rfl (by first | (go_simp; done) | (go_simp; rfl)) (((((((Sto.refl _ _).setCell 0 _).setCell 1 _).setCell 2 _).setCell 3 _).setCell 4 _).setCell 5 _) (((((((hB0).setCell 0 _).setCell 1 _).setCell 2 _).setCell 3 _).setCell 4 _).setCell 5 _) ?_
       clear hB0 cl0 fr0 cl1 fr1 cl2 fr2 cl3 fr3 cl4 fr4 cl5 fr5
       intro w298 hs hb300
       have hs299 := Aside0.mk hs
       clear hs
       refine wpList_nil ?_
       (try simp only [Exit.then, Exit.inBlock, ↓reduceIte, Nat.reduceEqDiff])
       refine hK286 _ _ ?_
       refine wp_seq_k (fun K301 hK301 => ?_)
       refine wp_region_lit ?_
       refine wpList_plain rfl (fun Ko hKo => ?_)
       go_simp
       refine hKo _ _ ?_
       clear hKo Ko
       try simp only [Act.put, nm1, nm2, nm3, i64_w]
       refine wpList_plain rfl (fun Ko hKo => ?_)
       go_simp
       refine hKo _ _ ?_
       clear hKo Ko
       try simp only [Act.put, nm1, nm2, nm3, i64_w]
       have cl0 := hb300.cell (o := 0) rfl
       have cl1 := hb300.cell (o := 1) rfl
       have cl2 := hb300.cell (o := 2) rfl
       have cl3 := hb300.cell (o := 3) rfl
       have cl4 := hb300.cell (o := 4) rfl
       have cl5 := hb300.cell (o := 5) rfl
       refine wpList_plain rfl (fun Ko hKo => ?_)
       go_simp
       refine hKo _ _ ?_
       clear hKo Ko
       clear cl0 cl1 cl2 cl3 cl4 cl5
       try simp only [Act.put, nm1, nm2, nm3, i64_w]
       refine step_call (wanted_none rfl) (by first | (go_simp; done) | (go_simp; rfl)) (spec_l07Good.calls K a0 a1 x10 t287 x29 t291 0 0 t302 w298  A303.out) ?_
       rintro e w304 ⟨rfl, hu⟩
       have hu305 := Aside0.mk hu
       clear hu
       refine ⟨_, rfl, ?_⟩
       simp only [Act.put, nm1, nm2, nm3, i64_w]
       refine wpList_plain rfl (fun Ko hKo => ?_)
       go_simp
       refine hKo _ _ ?_
       clear hKo Ko
       try simp only [Act.put, nm1, nm2, nm3, i64_w]
       have hm307 := Aside0.mk (((((hu34.out.trans hu290.out).trans hu294.out).trans hu297.out).sto (Nat.le_trans ((Nat.le_trans ((Nat.le_trans ((Nat.le_trans ((Nat.le_trans (hu5.out.size) hz16.out)) hz35.out)) hu290.out.size)) hu294.out.size)) lbb295.out) hs299.out).trans hu305.out)
       have hm308 := Aside0.mk (Nat.le_trans ((Nat.le_trans ((Nat.le_trans ((Nat.le_trans ((Nat.le_trans ((Nat.le_trans ((Nat.le_trans (hu5.out.size) hz16.out)) hz35.out)) hu290.out.size)) hu294.out.size)) hu297.out.size)) (Nat.le_of_eq hs299.out.size.symm))) hu305.out.size)
       have hm309 := Aside0.mk (Nat.le_trans ((Nat.le_trans ((Nat.le_trans ((Nat.le_trans ((Nat.le_trans ((Nat.le_trans (Nat.le_refl _) hz35.out)) hu290.out.size)) hu294.out.size)) hu297.out.size)) (Nat.le_of_eq hs299.out.size.symm))) hu305.out.size)
       by_cases c306 : (t302) = true
       ·
        rw [if_pos c306] at H
        subst c306
        replace H := Option.bind_eq_some_iff.mp H
        obtain ⟨t310, A311, H⟩ := H
        replace A311 := Aside0.mk A311
        try dsimp only at H
        replace H := Option.bind_eq_some_iff.mp H
        obtain ⟨t314, A315, H⟩ := H
        replace A315 := Aside0.mk A315
        try dsimp only at H
        refine wpList_step (fun Ko hKo => ?_)
        go_simp
        refine hKo _ _ ?_
        clear hKo Ko
        try simp only [Act.put, nm1, nm2, nm3, i64_w]
        have cl0 := (hb300.up hu305.out).cell (o := 0) rfl
        have cl1 := (hb300.up hu305.out).cell (o := 1) rfl
        have cl2 := (hb300.up hu305.out).cell (o := 2) rfl
        have cl3 := (hb300.up hu305.out).cell (o := 3) rfl
        have cl4 := (hb300.up hu305.out).cell (o := 4) rfl
        have cl5 := (hb300.up hu305.out).cell (o := 5) rfl
        refine wpList_step (fun Ko hKo => ?_)
        go_simp
        refine hKo _ _ ?_
        clear hKo Ko
        clear cl0 cl1 cl2 cl3 cl4 cl5
        try simp only [Act.put, nm1, nm2, nm3, i64_w]
        refine step_call rfl (by first | (go_simp; done) | (go_simp; rfl)) (spec_l07Sign.calls K a0 x10 t287 x29 t291 0 0 t310 w304  A311.out) ?_
        rintro e w312 ⟨rfl, hu⟩
        have hu313 := Aside0.mk hu
        clear hu
        refine ⟨_, rfl, ?_⟩
        simp only [Act.put, nm1, nm2, nm3, i64_w]
        refine wpList_step (fun Ko hKo => ?_)
        go_simp
        refine hKo _ _ ?_
        clear hKo Ko
        try simp only [Act.put, nm1, nm2, nm3, i64_w]
        refine wpList_step (fun Ko hKo => ?_)
        go_simp
        refine hKo _ _ ?_
        clear hKo Ko
        try simp only [Act.put, nm1, nm2, nm3, i64_w]
        refine step_call rfl (by first | (go_simp; done) | (go_simp; rfl)) (spec_l01Mod.calls K a2 a0 t314 w312  A315.out) ?_
        rintro e w316 ⟨rfl, hu⟩
        have hu317 := Aside0.mk hu
        clear hu
        refine ⟨_, rfl, ?_⟩
        simp only [Act.put, nm1, nm2, nm3, i64_w]
        refine wpList_step (fun Ko hKo => ?_)
        go_simp
        refine hKo _ _ ?_
        clear hKo Ko
        try simp only [Act.put, nm1, nm2, nm3, i64_w]
        refine wpList_plain rfl (fun Ko hKo => ?_)
        go_simp
        refine hKo _ _ ?_
        clear hKo Ko
        try simp only [Act.put, nm1, nm2, nm3, i64_w]
        refine wpList_nil ?_
        (try simp only [Exit.then, Exit.inBlock, ↓reduceIte, Nat.reduceEqDiff])
        refine hK301 _ _ ?_
        by_cases c318 : (t310 == t314) = true
        ·
         rw [if_pos c318] at H
         have c318n : (t310 != t314) = false := by rw [bne, c318]; rfl
         replace H := Option.bind_eq_some_iff.mp H
         obtain ⟨t319, A322, H⟩ := H
         replace A322 := Aside0.mk A322
         try dsimp only at H
         have HL325 := Aside0.mk H
         clear H
         try simp only [c318, c318n, Bool.not_true, Bool.not_false]
         refine wp_cond_true rfl ?_
         refine wp_region_lit ?_
         refine wpList_plain rfl (fun Ko hKo => ?_)
         go_simp
         refine hKo _ _ ?_
         clear hKo Ko
         try simp only [Act.put, nm1, nm2, nm3, i64_w]
         have cl0 := (hb300.up ((hu305.out.trans hu313.out).trans hu317.out)).cell (o := 0) rfl
         have cl1 := (hb300.up ((hu305.out.trans hu313.out).trans hu317.out)).cell (o := 1) rfl
         have cl2 := (hb300.up ((hu305.out.trans hu313.out).trans hu317.out)).cell (o := 2) rfl
         have cl3 := (hb300.up ((hu305.out.trans hu313.out).trans hu317.out)).cell (o := 3) rfl
         have cl4 := (hb300.up ((hu305.out.trans hu313.out).trans hu317.out)).cell (o := 4) rfl
         have cl5 := (hb300.up ((hu305.out.trans hu313.out).trans hu317.out)).cell (o := 5) rfl
         refine wpList_plain rfl (fun Ko hKo => ?_)
         go_simp
         refine hKo _ _ ?_
         clear hKo Ko
         clear cl0 cl1 cl2 cl3 cl4 cl5
         try simp only [Act.put, nm1, nm2, nm3, i64_w]
         refine step_call (wanted_none rfl) (by first | (go_simp; done) | (go_simp; rfl)) (spec_l07Put.calls K P31 q32 x30 x10 t287 x29 t291 0 0 t319 w316 ((h37.up ((((((hu290.out.trans hu294.out).trans hu297.out).sto (Nat.le_trans ((Nat.le_trans (hu290.out.size) hu294.out.size)) lbb295.out) hs299.out).trans hu305.out).trans hu313.out).trans hu317.out)).rd) (Own.cap (h37.up ((((((hu290.out.trans hu294.out).trans hu297.out).sto (Nat.le_trans ((Nat.le_trans (hu290.out.size) hu294.out.size)) lbb295.out) hs299.out).trans hu305.out).trans hu313.out).trans hu317.out))) A322.out) ?_
         rintro e w323 ⟨P320, q321, rfl, ht319, hu⟩
         have hu324 := Aside0.mk hu
         clear hu
         refine ⟨_, rfl, ?_⟩
         simp only [Act.put, nm1, nm2, nm3, i64_w]
         refine wpList_plain rfl (fun Ko hKo => ?_)
         go_simp
         refine hKo _ _ ?_
         clear hKo Ko
         try simp only [Act.put, nm1, nm2, nm3, i64_w]
         refine wpList_nil ?_
         (try simp only [Exit.then, Exit.inBlock, ↓reduceIte, Nat.reduceEqDiff])
         refine hK46 _ _ ?_
         refine wp_region_lit ?_
         refine wpList_plain rfl (fun Ko hKo => ?_)
         go_simp
         refine hKo _ _ ?_
         clear hKo Ko
         try simp only [Act.put, nm1, nm2, nm3, i64_w]
         refine wpList_plain rfl (fun Ko hKo => ?_)
         go_simp
         refine hKo _ _ ?_
         clear hKo Ko
         try simp only [Act.put, nm1, nm2, nm3, i64_w]
         refine wpList_plain rfl (fun Ko hKo => ?_)
         go_simp
         refine hKo _ _ ?_
         clear hKo Ko
         try simp only [Act.put, nm1, nm2, nm3, i64_w]
         refine wpList_nil ?_
         (try simp only [Exit.then, Exit.inBlock, ↓reduceIte, Nat.reduceEqDiff])
         refine hK42 _ _ ?_
         go_roundg k38
         case measure => exact Nat.lt_succ_self _
         case rel => exact ⟨wrap64 (x29 + 1), t319, P320, q321, (by first | rfl | simp), (by first | rfl | simp), HL325, ⟨by have := hk20.out; have := hk39.out; omega⟩, ⟨(((hm307.out.trans hu313.out).trans hu317.out).trans hu324.out)⟩, ⟨(Nat.le_trans ((Nat.le_trans ((Nat.le_trans (hm309.out) hu313.out.size)) hu317.out.size)) hu324.out.size)⟩, (ht319.lower ((Nat.le_trans ((Nat.le_trans (hm308.out) hu313.out.size)) hu317.out.size)))⟩
        ·
         rw [if_neg c318] at H
         replace c318 := Bool.eq_false_iff.mpr c318
         have c318n : (t310 != t314) = true := by rw [bne, c318]; rfl
         have c318p : ¬ t310 = t314 := fun e => by simp [e] at c318
         have HL326 := Aside0.mk H
         clear H
         try simp only [c318, c318n, Bool.not_true, Bool.not_false]
         refine wp_cond_false rfl ?_
         refine wp_skip ?_
         (try simp only [Exit.then, Exit.inBlock, ↓reduceIte, Nat.reduceEqDiff])
         refine hK46 _ _ ?_
         refine wp_region_lit ?_
         refine wpList_plain rfl (fun Ko hKo => ?_)
         go_simp
         refine hKo _ _ ?_
         clear hKo Ko
         try simp only [Act.put, nm1, nm2, nm3, i64_w]
         refine wpList_plain rfl (fun Ko hKo => ?_)
         go_simp
         refine hKo _ _ ?_
         clear hKo Ko
         try simp only [Act.put, nm1, nm2, nm3, i64_w]
         refine wpList_plain rfl (fun Ko hKo => ?_)
         go_simp
         refine hKo _ _ ?_
         clear hKo Ko
         try simp only [Act.put, nm1, nm2, nm3, i64_w]
         refine wpList_nil ?_
         (try simp only [Exit.then, Exit.inBlock, ↓reduceIte, Nat.reduceEqDiff])
         refine hK42 _ _ ?_
         go_roundg k38
         case measure => exact Nat.lt_succ_self _
         case rel => exact ⟨wrap64 (x29 + 1), x30, P31, q32, (by first | rfl | simp), (by first | rfl | simp), HL326, ⟨by have := hk20.out; have := hk39.out; omega⟩, ⟨((hm307.out.trans hu313.out).trans hu317.out)⟩, ⟨(Nat.le_trans ((Nat.le_trans (hm309.out) hu313.out.size)) hu317.out.size)⟩, (h37.up ((((((hu290.out.trans hu294.out).trans hu297.out).sto (Nat.le_trans ((Nat.le_trans (hu290.out.size) hu294.out.size)) lbb295.out) hs299.out).trans hu305.out).trans hu313.out).trans hu317.out))⟩
       ·
        rw [if_neg c306] at H
        replace c306 := Bool.eq_false_iff.mpr c306
        subst c306
        have HL327 := Aside0.mk H
        clear H
        refine step_no rfl ?_
        simp only [Act.put, nm1, nm2, nm3, i64_w]
        refine step_no rfl ?_
        simp only [Act.put, nm1, nm2, nm3, i64_w]
        refine step_no rfl ?_
        simp only [Act.put, nm1, nm2, nm3, i64_w]
        refine step_no rfl ?_
        simp only [Act.put, nm1, nm2, nm3, i64_w]
        refine step_no rfl ?_
        simp only [Act.put, nm1, nm2, nm3, i64_w]
        refine step_no rfl ?_
        simp only [Act.put, nm1, nm2, nm3, i64_w]
        refine step_no rfl ?_
        simp only [Act.put, nm1, nm2, nm3, i64_w]
        refine wpList_plain rfl (fun Ko hKo => ?_)
        go_simp
        refine hKo _ _ ?_
        clear hKo Ko
        try simp only [Act.put, nm1, nm2, nm3, i64_w]
        refine wpList_nil ?_
        (try simp only [Exit.then, Exit.inBlock, ↓reduceIte, Nat.reduceEqDiff])
        refine hK301 _ _ ?_
        refine wp_cond_false rfl ?_
        refine wp_skip ?_
        (try simp only [Exit.then, Exit.inBlock, ↓reduceIte, Nat.reduceEqDiff])
        refine hK46 _ _ ?_
        refine wp_region_lit ?_
        refine wpList_plain rfl (fun Ko hKo => ?_)
        go_simp
        refine hKo _ _ ?_
        clear hKo Ko
        try simp only [Act.put, nm1, nm2, nm3, i64_w]
        refine wpList_plain rfl (fun Ko hKo => ?_)
        go_simp
        refine hKo _ _ ?_
        clear hKo Ko
        try simp only [Act.put, nm1, nm2, nm3, i64_w]
        refine wpList_plain rfl (fun Ko hKo => ?_)
        go_simp
        refine hKo _ _ ?_
        clear hKo Ko
        try simp only [Act.put, nm1, nm2, nm3, i64_w]
        refine wpList_nil ?_
        (try simp only [Exit.then, Exit.inBlock, ↓reduceIte, Nat.reduceEqDiff])
        refine hK42 _ _ ?_
        go_roundg k38
        case measure => exact Nat.lt_succ_self _
        case rel => exact ⟨wrap64 (x29 + 1), x30, P31, q32, (by first | rfl | simp), (by first | rfl | simp), HL327, ⟨by have := hk20.out; have := hk39.out; omega⟩, ⟨hm307.out⟩, ⟨hm309.out⟩, (h37.up ((((hu290.out.trans hu294.out).trans hu297.out).sto (Nat.le_trans ((Nat.le_trans (hu290.out.size) hu294.out.size)) lbb295.out) hs299.out).trans hu305.out))⟩
    ·
     rw [if_neg c45] at H
     replace c45 := Bool.eq_false_iff.mpr c45
     have HL328 := Aside0.mk H
     clear H
     try simp only [c45, Bool.not_true, Bool.not_false]
     refine wp_cond_false rfl ?_
     refine wp_exit ?_
     (try simp only [Exit.then, Exit.inBlock, ↓reduceIte, Nat.reduceEqDiff])
     refine hK27 _ _ ?_
     refine wp_region_lit ?_
     refine wpList_plain rfl (fun Ko hKo => ?_)
     go_simp
     refine hKo _ _ ?_
     clear hKo Ko
     try simp only [Act.put, nm1, nm2, nm3, i64_w]
     refine wpList_plain rfl (fun Ko hKo => ?_)
     go_simp
     refine hKo _ _ ?_
     clear hKo Ko
     try simp only [Act.put, nm1, nm2, nm3, i64_w]
     refine wpList_plain rfl (fun Ko hKo => ?_)
     go_simp
     refine hKo _ _ ?_
     clear hKo Ko
     try simp only [Act.put, nm1, nm2, nm3, i64_w]
     refine wpList_nil ?_
     (try simp only [Exit.then, Exit.inBlock, ↓reduceIte, Nat.reduceEqDiff])
     refine hK23 _ _ ?_
     go_roundg k38
     case measure => have := hk20.out; have := hk39.out; omega
     case rel => exact ⟨wrap64 (x10 + 1), x30, P31, q32, (by first | rfl | simp), (by first | rfl | simp), HL328, ⟨by have := hk20.out; have := hk39.out; omega⟩, ⟨hu34.out⟩, ⟨(Nat.le_trans ((Nat.le_trans (Nat.le_refl _) hz16.out)) hz35.out)⟩, h37⟩
  ·
   rw [if_neg c26] at H
   replace c26 := Bool.eq_false_iff.mpr c26
   obtain rfl := Option.some.inj H
   try simp only [c26, Bool.not_true, Bool.not_false]
   refine wp_cond_false rfl ?_
   refine wp_exit ?_
   (try simp only [Exit.then, Exit.inBlock, ↓reduceIte, Nat.reduceEqDiff])
   refine hK6 _ _ ?_
   refine wp_seq_k (fun K329 hK329 => ?_)
   refine wp_region_lit ?_
   refine wpList_plain rfl (fun Ko hKo => ?_)
   go_simp
   refine hKo _ _ ?_
   clear hKo Ko
   try simp only [Act.put, nm1, nm2, nm3, i64_w]
   refine wpList_plain rfl (fun Ko hKo => ?_)
   go_simp
   refine hKo _ _ ?_
   clear hKo Ko
   try simp only [Act.put, nm1, nm2, nm3, i64_w]
   refine wpList_nil ?_
   (try simp only [Exit.then, Exit.inBlock, ↓reduceIte, Nat.reduceEqDiff])
   refine hK329 _ _ ?_
   refine wp_ret ?_
   (try simp only [Exit.then, Exit.inBlock, ↓reduceIte, Nat.reduceEqDiff])
   refine hQf _ _ _ ?_
   exact bodyPost_ret (v := .slice P12 x11.length q13) (by first | rfl | (simp [results, Try.results74, go_sem]; done) | (simp [results, Try.results74, go_sem]; rfl)) rfl ⟨P12, q13, rfl, (h18.lower (Nat.le_refl _)), hu15.out⟩

set_option maxHeartbeats 40000000 in
set_option maxRecDepth 100000 in
theorem spec_l01Plus.calls (K : Nat) (a0 : Int) (a1_0 : Int) (a1_1 : Int) (a2_0 : Int) (a2_1 : Int) (r0 : Int) (r1 : Int) (w : World)  (h : spec_l01Plus.f K a0 a1_0 a1_1 a2_0 a2_1 = some (r0, r1)) :
    Calls Try.prog 109 #[.int .i64 a0, .agg #[.int .i64 a1_0, .int .i64 a1_1], .agg #[.int .i64 a2_0, .int .i64 a2_1]] w fun e w' => e = .returned (.agg #[.int .i64 r0, .int .i64 r1]) ∧ Up w w' := by
 have H : (((spec_l01Mod.f K (wrap64 (a1_0 + a2_0)) a0).bind fun t12 => ((spec_l01Mod.f K (wrap64 (a1_1 + a2_1)) a0).bind fun t14 => some (t12, t14))) : Option (Int × Int)) = some (r0, r1) := h
 clear h
 replace H := Option.bind_eq_some_iff.mp H
 obtain ⟨t12, A13, H⟩ := H
 replace A13 := Aside0.mk A13
 try dsimp only at H
 replace H := Option.bind_eq_some_iff.mp H
 obtain ⟨t14, A15, H⟩ := H
 replace A15 := Aside0.mk A15
 try dsimp only at H
 simp only [Option.some.injEq, Prod.mk.injEq] at H
 obtain ⟨rfl, rfl⟩ := H
 go_enter Try.func109, Try.ntmps109
 refine wp_hide (fun Qf hQf => ?_)
 refine wp_seq_k (fun K1 hK1 => ?_)
 refine wp_region_lit ?_
 refine step_new (cs := [.int .i64 a1_0, .int .i64 a1_1]) (T := 26) (f := fun b => .pointer (some ⟨b, 0, none⟩)) rfl (by first | (go_simp; done) | (go_simp; rfl)) ?_
 intro b2 w3 hu lb hb2
 simp only [Act.put, nm1, nm2, nm3, i64_w]
 have lbb2 := Aside0.mk lb
 have ltb2 := Aside0.mk hb2.lt
 clear lb
 have hu4 := Aside0.mk hu
 clear hu
 refine step_new (cs := [.int .i64 a2_0, .int .i64 a2_1]) (T := 26) (f := fun b => .pointer (some ⟨b, 0, none⟩)) rfl (by first | (go_simp; done) | (go_simp; rfl)) ?_
 intro b5 w6 hu lb hb5
 simp only [Act.put, nm1, nm2, nm3, i64_w]
 have lbb5 := Aside0.mk lb
 have ltb5 := Aside0.mk hb5.lt
 clear lb
 have hu7 := Aside0.mk hu
 clear hu
 refine step_new (cs := [.int .i64 0, .int .i64 0]) (T := 26) (f := fun b => .pointer (some ⟨b, 0, none⟩)) rfl (by first | (go_simp; done) | (go_simp; rfl)) ?_
 intro b8 w9 hu lb hb8
 simp only [Act.put, nm1, nm2, nm3, i64_w]
 have lbb8 := Aside0.mk lb
 have ltb8 := Aside0.mk hb8.lt
 clear lb
 have hu10 := Aside0.mk hu
 clear hu
 refine wpList_nil ?_
 (try simp only [Exit.then, Exit.inBlock, ↓reduceIte, Nat.reduceEqDiff])
 refine hK1 _ _ ?_
 refine wp_seq_k (fun K11 hK11 => ?_)
 refine' wp_region_up 15 [Slot.det _, Slot.det _, Slot.det _, Slot.det _, Slot.det _, Slot.det _, Slot.det (.int .i64 t12), Slot.det _, Slot.det _, Slot.det _, Slot.det _, Slot.det _, Slot.det _, Slot.det (.int .i64 t14), Slot.det _] (by kernel_rfl) (by kernel_rfl) ?main
 case main =>
  simp only [List.take_succ_cons, List.take_zero]
  refine wpK_ops rfl (fun w1 hu => ?_) ?_
  · clear hu
    go_simp
    first | done | rfl
  simp only [Act.put, nm1, nm2, nm3, i64_w]
  refine wpK_ops rfl (fun w1 hu => ?_) ?_
  · have cl0 := ((hb2.up (hu7.out.trans hu10.out)).up ((Up.refl _).drew.trans hu)).cell (o := 0) rfl
    go_simp
    first | done | rfl
  simp only [Act.put, nm1, nm2, nm3, i64_w]
  refine wpK_ops rfl (fun w1 hu => ?_) ?_
  · clear hu
    go_simp
    first | done | rfl
  simp only [Act.put, nm1, nm2, nm3, i64_w]
  refine wpK_ops rfl (fun w1 hu => ?_) ?_
  · have cl0 := ((hb5.up hu10.out).up ((Up.refl _).drew.trans hu)).cell (o := 0) rfl
    go_simp
    first | done | rfl
  simp only [Act.put, nm1, nm2, nm3, i64_w]
  refine wpK_ops rfl (fun w1 hu => ?_) ?_
  · clear hu
    go_simp
    first | done | rfl
  simp only [Act.put, nm1, nm2, nm3, i64_w]
  refine wpK_ops rfl (fun w1 hu => ?_) ?_
  · clear hu
    go_simp
    first | done | rfl
  simp only [Act.put, nm1, nm2, nm3, i64_w]
  refine wpK_ops rfl (fun w1 hu => ?_) ?_
  · have hcl := (spec_l01Mod.calls K (wrap64 (a1_0 + a2_0)) a0 t12 w1  A13.out)
    clear hu
    replace hcl := Aside0.mk hcl
    go_simp
    exact hcl.out
  simp only [Act.put, nm1, nm2, nm3, i64_w]
  refine wpK_ops rfl (fun w1 hu => ?_) ?_
  · clear hu
    go_simp
    first | done | rfl
  simp only [Act.put, nm1, nm2, nm3, i64_w]
  refine wpK_ops rfl (fun w1 hu => ?_) ?_
  · have cl0 := ((hb2.up (hu7.out.trans hu10.out)).up ((Up.refl _).drew.trans hu)).cell (o := 1) rfl
    go_simp
    first | done | rfl
  simp only [Act.put, nm1, nm2, nm3, i64_w]
  refine wpK_ops rfl (fun w1 hu => ?_) ?_
  · clear hu
    go_simp
    first | done | rfl
  simp only [Act.put, nm1, nm2, nm3, i64_w]
  refine wpK_ops rfl (fun w1 hu => ?_) ?_
  · have cl0 := ((hb5.up hu10.out).up ((Up.refl _).drew.trans hu)).cell (o := 1) rfl
    go_simp
    first | done | rfl
  simp only [Act.put, nm1, nm2, nm3, i64_w]
  refine wpK_ops rfl (fun w1 hu => ?_) ?_
  · clear hu
    go_simp
    first | done | rfl
  simp only [Act.put, nm1, nm2, nm3, i64_w]
  refine wpK_ops rfl (fun w1 hu => ?_) ?_
  · clear hu
    go_simp
    first | done | rfl
  simp only [Act.put, nm1, nm2, nm3, i64_w]
  refine wpK_ops rfl (fun w1 hu => ?_) ?_
  · have hcl := (spec_l01Mod.calls K (wrap64 (a1_1 + a2_1)) a0 t14 w1  A15.out)
    clear hu
    replace hcl := Aside0.mk hcl
    go_simp
    exact hcl.out
  simp only [Act.put, nm1, nm2, nm3, i64_w]
  refine wpK_ops rfl (fun w1 hu => ?_) ?_
  · clear hu
    go_simp
    first | done | rfl
  simp only [Act.put, nm1, nm2, nm3, i64_w]
  refine wpK_nil ?_
  intro w16 hu hap
  simp only [List.drop_succ_cons, List.drop_zero]
  replace hu := (Up.refl _).drew.trans hu
  clear hap
  have hu17 := Aside0.mk hu
  clear hu
  have hB0 := (hb8.up hu17.out)
  have cl0 := hB0.cell (o := 0) rfl
  have fr0 := hB0.free 0
  have cl1 := hB0.cell (o := 1) rfl
  have fr1 := hB0.free 1
  refine step_store (b := b8) (cs' := [.int .i64 t12, .int .i64 t14]) (T := 26) (W' := ((w16.setCell ⟨b8, 0, none⟩ (.int .i64 t12)).setCell ⟨b8, 1, none⟩ (.int .i64 t14))) rfl rfl (by first | (go_simp; done) | (go_simp; rfl)) (((Sto.refl _ _).setCell 0 _).setCell 1 _) (((hB0).setCell 0 _).setCell 1 _) ?_
  clear hB0 cl0 fr0 cl1 fr1
  intro w18 hs hb20
  have hs19 := Aside0.mk hs
  clear hs
  refine wpList_nil ?_
  (try simp only [Exit.then, Exit.inBlock, ↓reduceIte, Nat.reduceEqDiff])
  refine hK11 _ _ ?_
  refine wp_ret ?_
  (try simp only [Exit.then, Exit.inBlock, ↓reduceIte, Nat.reduceEqDiff])
  refine hQf _ _ _ ?_
  have cr0 := hb20.cell (o := 0) rfl
  have cr1 := hb20.cell (o := 1) rfl
  exact bodyPost_ret (v := .agg #[.int .i64 t12, .int .i64 t14]) (by first | rfl | (simp [results, Try.results109, go_sem, cr0, cr1]; done) | (simp [results, Try.results109, go_sem, cr0, cr1]; rfl)) rfl ⟨rfl, ((((hu4.out.trans hu7.out).trans hu10.out).trans hu17.out).sto (Nat.le_trans ((Nat.le_trans (hu4.out.size) hu7.out.size)) lbb8.out) hs19.out)⟩

set_option maxHeartbeats 40000000 in
set_option maxRecDepth 100000 in
theorem spec_l07Move.calls (K : Nat) (a0 : Int) (a1_0 : Int) (a1_1 : Int) (a1_2 : Int) (a1_3 : Int) (a1_4 : Int) (a1_5 : Int) (a2_0 : Int) (a2_1 : Int) (r0 : Int) (r1 : Int) (w : World)  (h : spec_l07Move.f K a0 a1_0 a1_1 a1_2 a1_3 a1_4 a1_5 a2_0 a2_1 = some (r0, r1)) :
    Calls Try.prog 47 #[.int .i64 a0, .agg #[.int .i64 a1_0, .int .i64 a1_1, .int .i64 a1_2, .int .i64 a1_3, .int .i64 a1_4, .int .i64 a1_5], .agg #[.int .i64 a2_0, .int .i64 a2_1]] w fun e w' => e = .returned (.agg #[.int .i64 r0, .int .i64 r1]) ∧ Up w w' := by
 have H : (((spec_l07Lead.f K a0 a1_0 a1_1 a1_2 a1_3 a1_4 a1_5 a2_0 a2_1).bind fun (t12, t13) => ((spec_l01Plus.f K a0 t12 t13 a1_4 a1_5).bind fun (t15, t16) => some (t15, t16))) : Option (Int × Int)) = some (r0, r1) := h
 clear h
 replace H := Option.bind_eq_some_iff.mp H
 obtain ⟨⟨t12, t13⟩, A14, H⟩ := H
 replace A14 := Aside0.mk A14
 try dsimp only at H
 replace H := Option.bind_eq_some_iff.mp H
 obtain ⟨⟨t15, t16⟩, A17, H⟩ := H
 replace A17 := Aside0.mk A17
 try dsimp only at H
 simp only [Option.some.injEq, Prod.mk.injEq] at H
 obtain ⟨rfl, rfl⟩ := H
 go_enter Try.func47, Try.ntmps47
 refine wp_hide (fun Qf hQf => ?_)
 refine wp_seq_k (fun K1 hK1 => ?_)
 refine wp_region_lit ?_
 refine step_new (cs := [.int .i64 a1_0, .int .i64 a1_1, .int .i64 a1_2, .int .i64 a1_3, .int .i64 a1_4, .int .i64 a1_5]) (T := 30) (f := fun b => .pointer (some ⟨b, 0, none⟩)) rfl (by first | (go_simp; done) | (go_simp; rfl)) ?_
 intro b2 w3 hu lb hb2
 simp only [Act.put, nm1, nm2, nm3, i64_w]
 have lbb2 := Aside0.mk lb
 have ltb2 := Aside0.mk hb2.lt
 clear lb
 have hu4 := Aside0.mk hu
 clear hu
 refine step_new (cs := [.int .i64 a2_0, .int .i64 a2_1]) (T := 26) (f := fun b => .pointer (some ⟨b, 0, none⟩)) rfl (by first | (go_simp; done) | (go_simp; rfl)) ?_
 intro b5 w6 hu lb hb5
 simp only [Act.put, nm1, nm2, nm3, i64_w]
 have lbb5 := Aside0.mk lb
 have ltb5 := Aside0.mk hb5.lt
 clear lb
 have hu7 := Aside0.mk hu
 clear hu
 refine step_new (cs := [.int .i64 0, .int .i64 0]) (T := 26) (f := fun b => .pointer (some ⟨b, 0, none⟩)) rfl (by first | (go_simp; done) | (go_simp; rfl)) ?_
 intro b8 w9 hu lb hb8
 simp only [Act.put, nm1, nm2, nm3, i64_w]
 have lbb8 := Aside0.mk lb
 have ltb8 := Aside0.mk hb8.lt
 clear lb
 have hu10 := Aside0.mk hu
 clear hu
 refine wpList_nil ?_
 (try simp only [Exit.then, Exit.inBlock, ↓reduceIte, Nat.reduceEqDiff])
 refine hK1 _ _ ?_
 refine wp_seq_k (fun K11 hK11 => ?_)
 refine' wp_region_up 8 [Slot.det _, Slot.det _, Slot.det _, Slot.det _, Slot.det (.agg #[.int .i64 t12, .int .i64 t13]), Slot.det _, Slot.det _, Slot.det (.agg #[.int .i64 t15, .int .i64 t16])] (by kernel_rfl) (by kernel_rfl) ?main
 case main =>
  simp only [List.take_succ_cons, List.take_zero]
  refine wpK_ops rfl (fun w1 hu => ?_) ?_
  · clear hu
    go_simp
    first | done | rfl
  simp only [Act.put, nm1, nm2, nm3, i64_w]
  refine wpK_ops rfl (fun w1 hu => ?_) ?_
  · clear hu
    go_simp
    first | done | rfl
  simp only [Act.put, nm1, nm2, nm3, i64_w]
  refine wpK_ops rfl (fun w1 hu => ?_) ?_
  · have cl0 := ((hb2.up (hu7.out.trans hu10.out)).up ((Up.refl _).drew.trans hu)).cell (o := 0) rfl
    have cl1 := ((hb2.up (hu7.out.trans hu10.out)).up ((Up.refl _).drew.trans hu)).cell (o := 1) rfl
    have cl2 := ((hb2.up (hu7.out.trans hu10.out)).up ((Up.refl _).drew.trans hu)).cell (o := 2) rfl
    have cl3 := ((hb2.up (hu7.out.trans hu10.out)).up ((Up.refl _).drew.trans hu)).cell (o := 3) rfl
    have cl4 := ((hb2.up (hu7.out.trans hu10.out)).up ((Up.refl _).drew.trans hu)).cell (o := 4) rfl
    have cl5 := ((hb2.up (hu7.out.trans hu10.out)).up ((Up.refl _).drew.trans hu)).cell (o := 5) rfl
    go_simp
    first | done | rfl
  simp only [Act.put, nm1, nm2, nm3, i64_w]
  refine wpK_ops rfl (fun w1 hu => ?_) ?_
  · have cl0 := ((hb5.up hu10.out).up ((Up.refl _).drew.trans hu)).cell (o := 0) rfl
    have cl1 := ((hb5.up hu10.out).up ((Up.refl _).drew.trans hu)).cell (o := 1) rfl
    go_simp
    first | done | rfl
  simp only [Act.put, nm1, nm2, nm3, i64_w]
  refine wpK_ops rfl (fun w1 hu => ?_) ?_
  · have hcl := (spec_l07Lead.calls K a0 a1_0 a1_1 a1_2 a1_3 a1_4 a1_5 a2_0 a2_1 t12 t13 w1  A14.out)
    clear hu
    replace hcl := Aside0.mk hcl
    go_simp
    exact hcl.out
  simp only [Act.put, nm1, nm2, nm3, i64_w]
  refine wpK_ops rfl (fun w1 hu => ?_) ?_
  · clear hu
    go_simp
    first | done | rfl
  simp only [Act.put, nm1, nm2, nm3, i64_w]
  refine wpK_ops rfl (fun w1 hu => ?_) ?_
  · have cl0 := ((hb2.up (hu7.out.trans hu10.out)).up ((Up.refl _).drew.trans hu)).cell (o := 4) rfl
    have cl1 := ((hb2.up (hu7.out.trans hu10.out)).up ((Up.refl _).drew.trans hu)).cell (o := 5) rfl
    go_simp
    first | done | rfl
  simp only [Act.put, nm1, nm2, nm3, i64_w]
  refine wpK_ops rfl (fun w1 hu => ?_) ?_
  · have hcl := (spec_l01Plus.calls K a0 t12 t13 a1_4 a1_5 t15 t16 w1  A17.out)
    clear hu
    replace hcl := Aside0.mk hcl
    go_simp
    exact hcl.out
  simp only [Act.put, nm1, nm2, nm3, i64_w]
  refine wpK_nil ?_
  intro w18 hu hap
  simp only [List.drop_succ_cons, List.drop_zero]
  replace hu := (Up.refl _).drew.trans hu
  clear hap
  have hu19 := Aside0.mk hu
  clear hu
  have hB0 := (hb8.up hu19.out)
  have cl0 := hB0.cell (o := 0) rfl
  have fr0 := hB0.free 0
  have cl1 := hB0.cell (o := 1) rfl
  have fr1 := hB0.free 1
  refine step_store (b := b8) (cs' := [.int .i64 t15, .int .i64 t16]) (T := 26) (W' := ((w18.setCell ⟨b8, 0, none⟩ (.int .i64 t15)).setCell ⟨b8, 1, none⟩ (.int .i64 t16))) rfl rfl (by first | (go_simp; done) | (go_simp; rfl)) (((Sto.refl _ _).setCell 0 _).setCell 1 _) (((hB0).setCell 0 _).setCell 1 _) ?_
  clear hB0 cl0 fr0 cl1 fr1
  intro w20 hs hb22
  have hs21 := Aside0.mk hs
  clear hs
  refine wpList_nil ?_
  (try simp only [Exit.then, Exit.inBlock, ↓reduceIte, Nat.reduceEqDiff])
  refine hK11 _ _ ?_
  refine wp_ret ?_
  (try simp only [Exit.then, Exit.inBlock, ↓reduceIte, Nat.reduceEqDiff])
  refine hQf _ _ _ ?_
  have cr0 := hb22.cell (o := 0) rfl
  have cr1 := hb22.cell (o := 1) rfl
  exact bodyPost_ret (v := .agg #[.int .i64 t15, .int .i64 t16]) (by first | rfl | (simp [results, Try.results47, go_sem, cr0, cr1]; done) | (simp [results, Try.results47, go_sem, cr0, cr1]; rfl)) rfl ⟨rfl, ((((hu4.out.trans hu7.out).trans hu10.out).trans hu19.out).sto (Nat.le_trans ((Nat.le_trans (hu4.out.size) hu7.out.size)) lbb8.out) hs21.out)⟩

set_option maxHeartbeats 40000000 in
set_option maxRecDepth 100000 in
theorem spec_MovesBetween.calls (K : Nat) (a0 : Int) (a1 : Int) (a2_0 : Int) (a2_1 : Int) (a3_0 : Int) (a3_1 : Int) (a4_0 : Int) (a4_1 : Int) (a5_0 : Int) (a5_1 : Int) (r0 : List (Int × Int × Int × Int × Int × Int)) (r1 : Int) (w : World)  (h : spec_MovesBetween.f K a0 a1 a2_0 a2_1 a3_0 a3_1 a4_0 a4_1 a5_0 a5_1 = some (r0, r1)) :
    Calls Try.prog 43 #[.int .i64 a0, .int .i64 a1, .agg #[.int .i64 a2_0, .int .i64 a2_1], .agg #[.int .i64 a3_0, .int .i64 a3_1], .agg #[.int .i64 a4_0, .int .i64 a4_1], .agg #[.int .i64 a5_0, .int .i64 a5_1]] w fun e w' => ∃ (Ar0 : Option Addr) (cr0 : Nat), e = .returned (.tuple #[.slice Ar0 r0.length cr0, .int .i64 r1]) ∧ Own e6 30 w' w.heap.size (.slice Ar0 r0.length cr0) r0 ∧ Up w w' := by
 have H : (((spec_l03Points.f K a0 a1 ([(a2_0, a2_1), (a3_0, a3_1), (a4_0, a4_1), (a5_0, a5_1)])).bind fun t18 => (if (t18 == 0) = true then ((spec_l02Quadrance.f K a0 a1 a2_0 a2_1 a3_0 a3_1).bind fun t30 => (if (t30 == 0) = true then some ([], 5) else ((spec_l02Quadrance.f K a0 a1 a4_0 a4_1 a5_0 a5_1).bind fun t42 => (if (t30 == t42) = true then ((spec_l07All.f K a0 a1 (-1)).bind fun t61 => (spec_MovesBetween.l0 K a0 a1 a2_0 a2_1 a3_0 a3_1 a4_0 a4_1 a5_0 a5_1 t61 K 0 ([] : List (Int × Int × Int × Int × Int × Int)))) else some ([], 5))))) else some ([], t18))) : Option (List (Int × Int × Int × Int × Int × Int) × Int)) = some (r0, r1) := h
 clear h
 replace H := Option.bind_eq_some_iff.mp H
 obtain ⟨t18, A19, H⟩ := H
 replace A19 := Aside0.mk A19
 try dsimp only at H
 go_enter Try.func43, Try.ntmps43
 refine wp_hide (fun Qf hQf => ?_)
 refine wp_seq_k (fun K1 hK1 => ?_)
 refine wp_region_lit ?_
 refine step_new (cs := [.int .i64 a2_0, .int .i64 a2_1]) (T := 26) (f := fun b => .pointer (some ⟨b, 0, none⟩)) rfl (by first | (go_simp; done) | (go_simp; rfl)) ?_
 intro b2 w3 hu lb hb2
 simp only [Act.put, nm1, nm2, nm3, i64_w]
 have lbb2 := Aside0.mk lb
 have ltb2 := Aside0.mk hb2.lt
 clear lb
 have hu4 := Aside0.mk hu
 clear hu
 refine step_new (cs := [.int .i64 a3_0, .int .i64 a3_1]) (T := 26) (f := fun b => .pointer (some ⟨b, 0, none⟩)) rfl (by first | (go_simp; done) | (go_simp; rfl)) ?_
 intro b5 w6 hu lb hb5
 simp only [Act.put, nm1, nm2, nm3, i64_w]
 have lbb5 := Aside0.mk lb
 have ltb5 := Aside0.mk hb5.lt
 clear lb
 have hu7 := Aside0.mk hu
 clear hu
 refine step_new (cs := [.int .i64 a4_0, .int .i64 a4_1]) (T := 26) (f := fun b => .pointer (some ⟨b, 0, none⟩)) rfl (by first | (go_simp; done) | (go_simp; rfl)) ?_
 intro b8 w9 hu lb hb8
 simp only [Act.put, nm1, nm2, nm3, i64_w]
 have lbb8 := Aside0.mk lb
 have ltb8 := Aside0.mk hb8.lt
 clear lb
 have hu10 := Aside0.mk hu
 clear hu
 refine step_new (cs := [.int .i64 a5_0, .int .i64 a5_1]) (T := 26) (f := fun b => .pointer (some ⟨b, 0, none⟩)) rfl (by first | (go_simp; done) | (go_simp; rfl)) ?_
 intro b11 w12 hu lb hb11
 simp only [Act.put, nm1, nm2, nm3, i64_w]
 have lbb11 := Aside0.mk lb
 have ltb11 := Aside0.mk hb11.lt
 clear lb
 have hu13 := Aside0.mk hu
 clear hu
 refine wpList_plain rfl (fun Ko hKo => ?_)
 go_simp
 refine hKo _ _ ?_
 clear hKo Ko
 try simp only [Act.put, nm1, nm2, nm3, i64_w]
 refine wpList_plain rfl (fun Ko hKo => ?_)
 go_simp
 refine hKo _ _ ?_
 clear hKo Ko
 try simp only [Act.put, nm1, nm2, nm3, i64_w]
 refine wpList_nil ?_
 (try simp only [Exit.then, Exit.inBlock, ↓reduceIte, Nat.reduceEqDiff])
 refine hK1 _ _ ?_
 refine wp_seq_k (fun K14 hK14 => ?_)
 refine wp_region_lit ?_
 refine wpList_plain rfl (fun Ko hKo => ?_)
 go_simp
 refine hKo _ _ ?_
 clear hKo Ko
 try simp only [Act.put, nm1, nm2, nm3, i64_w]
 refine wpList_plain rfl (fun Ko hKo => ?_)
 go_simp
 refine hKo _ _ ?_
 clear hKo Ko
 try simp only [Act.put, nm1, nm2, nm3, i64_w]
 have cl0 := (hb2.up ((hu7.out.trans hu10.out).trans hu13.out)).cell (o := 0) rfl
 have cl1 := (hb2.up ((hu7.out.trans hu10.out).trans hu13.out)).cell (o := 1) rfl
 refine wpList_plain rfl (fun Ko hKo => ?_)
 go_simp
 refine hKo _ _ ?_
 clear hKo Ko
 clear cl0 cl1
 try simp only [Act.put, nm1, nm2, nm3, i64_w]
 have cl0 := (hb5.up (hu10.out.trans hu13.out)).cell (o := 0) rfl
 have cl1 := (hb5.up (hu10.out.trans hu13.out)).cell (o := 1) rfl
 refine wpList_plain rfl (fun Ko hKo => ?_)
 go_simp
 refine hKo _ _ ?_
 clear hKo Ko
 clear cl0 cl1
 try simp only [Act.put, nm1, nm2, nm3, i64_w]
 have cl0 := (hb8.up hu13.out).cell (o := 0) rfl
 have cl1 := (hb8.up hu13.out).cell (o := 1) rfl
 refine wpList_plain rfl (fun Ko hKo => ?_)
 go_simp
 refine hKo _ _ ?_
 clear hKo Ko
 clear cl0 cl1
 try simp only [Act.put, nm1, nm2, nm3, i64_w]
 have cl0 := hb11.cell (o := 0) rfl
 have cl1 := hb11.cell (o := 1) rfl
 refine wpList_plain rfl (fun Ko hKo => ?_)
 go_simp
 refine hKo _ _ ?_
 clear hKo Ko
 clear cl0 cl1
 try simp only [Act.put, nm1, nm2, nm3, i64_w]
 refine step_new (cs := [.int .i64 a2_0, .int .i64 a2_1, .int .i64 a3_0, .int .i64 a3_1, .int .i64 a4_0, .int .i64 a4_1, .int .i64 a5_0, .int .i64 a5_1]) (T := 26) (f := fun b => .slice (some ⟨b, 0, none⟩) 4 4) rfl (by first | (go_simp; done) | (go_simp; rfl)) ?_
 intro b15 w16 hu lb hb15
 simp only [Act.put, nm1, nm2, nm3, i64_w]
 have lbb15 := Aside0.mk lb
 have ltb15 := Aside0.mk hb15.lt
 clear lb
 have hu17 := Aside0.mk hu
 clear hu
 refine step_call (wanted_none rfl) (by first | (go_simp; done) | (go_simp; rfl)) (spec_l03Points.calls K a0 a1 (some ⟨b15, 0, none⟩) 4 ([(a2_0, a2_1), (a3_0, a3_1), (a4_0, a4_1), (a5_0, a5_1)]) t18 w16 (Rd.of_blk (E := e2) (xs := [(a2_0, a2_1), (a3_0, a3_1), (a4_0, a4_1), (a5_0, a5_1)]) (o := 0) hb15 (by simp) (fun j u hu => by rcases j with _ | _ | _ | _ | _ | _ | _ | _ | j <;> simp_all [Enc.flat, e2])) A19.out) ?_
 rintro e w20 ⟨rfl, hu⟩
 have hu21 := Aside0.mk hu
 clear hu
 refine ⟨_, rfl, ?_⟩
 simp only [Act.put, nm1, nm2, nm3, i64_w]
 refine wpList_plain rfl (fun Ko hKo => ?_)
 go_simp
 refine hKo _ _ ?_
 clear hKo Ko
 try simp only [Act.put, nm1, nm2, nm3, i64_w]
 refine wpList_nil ?_
 (try simp only [Exit.then, Exit.inBlock, ↓reduceIte, Nat.reduceEqDiff])
 refine hK14 _ _ ?_
 refine wp_seq_k (fun K22 hK22 => ?_)
 refine wp_seq_k (fun K23 hK23 => ?_)
 refine wp_region_lit ?_
 refine wpList_plain rfl (fun Ko hKo => ?_)
 go_simp
 refine hKo _ _ ?_
 clear hKo Ko
 try simp only [Act.put, nm1, nm2, nm3, i64_w]
 refine wpList_plain rfl (fun Ko hKo => ?_)
 go_simp
 refine hKo _ _ ?_
 clear hKo Ko
 try simp only [Act.put, nm1, nm2, nm3, i64_w]
 refine wpList_nil ?_
 (try simp only [Exit.then, Exit.inBlock, ↓reduceIte, Nat.reduceEqDiff])
 refine hK23 _ _ ?_
 have hm25 := Aside0.mk (((((hu4.out.trans hu7.out).trans hu10.out).trans hu13.out).trans hu17.out).trans hu21.out)
 have hm26 := Aside0.mk (Nat.le_trans ((Nat.le_trans ((Nat.le_trans ((Nat.le_trans ((Nat.le_trans (hu4.out.size) hu7.out.size)) hu10.out.size)) hu13.out.size)) hu17.out.size)) hu21.out.size)
 have h27 := (hb2.up ((((hu7.out.trans hu10.out).trans hu13.out).trans hu17.out).trans hu21.out))
 have h28 := (hb5.up (((hu10.out.trans hu13.out).trans hu17.out).trans hu21.out))
 by_cases c24 : (t18 == 0) = true
 ·
  rw [if_pos c24] at H
  have c24n : (t18 != 0) = false := by rw [bne, c24]; rfl
  replace H := Option.bind_eq_some_iff.mp H
  obtain ⟨t30, A31, H⟩ := H
  replace A31 := Aside0.mk A31
  try dsimp only at H
  try simp only [c24, c24n, Bool.not_true, Bool.not_false]
  refine wp_cond_true rfl ?_
  refine wp_seq_k (fun K29 hK29 => ?_)
  refine wp_region_lit ?_
  refine wpList_plain rfl (fun Ko hKo => ?_)
  go_simp
  refine hKo _ _ ?_
  clear hKo Ko
  try simp only [Act.put, nm1, nm2, nm3, i64_w]
  refine wpList_plain rfl (fun Ko hKo => ?_)
  go_simp
  refine hKo _ _ ?_
  clear hKo Ko
  try simp only [Act.put, nm1, nm2, nm3, i64_w]
  have cl0 := h27.cell (o := 0) rfl
  have cl1 := h27.cell (o := 1) rfl
  refine wpList_plain rfl (fun Ko hKo => ?_)
  go_simp
  refine hKo _ _ ?_
  clear hKo Ko
  clear cl0 cl1
  try simp only [Act.put, nm1, nm2, nm3, i64_w]
  have cl0 := h28.cell (o := 0) rfl
  have cl1 := h28.cell (o := 1) rfl
  refine wpList_plain rfl (fun Ko hKo => ?_)
  go_simp
  refine hKo _ _ ?_
  clear hKo Ko
  clear cl0 cl1
  try simp only [Act.put, nm1, nm2, nm3, i64_w]
  refine step_call (wanted_none rfl) (by first | (go_simp; done) | (go_simp; rfl)) (spec_l02Quadrance.calls K a0 a1 a2_0 a2_1 a3_0 a3_1 t30 w20  A31.out) ?_
  rintro e w32 ⟨rfl, hu⟩
  have hu33 := Aside0.mk hu
  clear hu
  refine ⟨_, rfl, ?_⟩
  simp only [Act.put, nm1, nm2, nm3, i64_w]
  refine wpList_plain rfl (fun Ko hKo => ?_)
  go_simp
  refine hKo _ _ ?_
  clear hKo Ko
  try simp only [Act.put, nm1, nm2, nm3, i64_w]
  refine wpList_nil ?_
  (try simp only [Exit.then, Exit.inBlock, ↓reduceIte, Nat.reduceEqDiff])
  refine hK29 _ _ ?_
  refine wp_seq_k (fun K34 hK34 => ?_)
  refine wp_region_lit ?_
  refine wpList_plain rfl (fun Ko hKo => ?_)
  go_simp
  refine hKo _ _ ?_
  clear hKo Ko
  try simp only [Act.put, nm1, nm2, nm3, i64_w]
  refine wpList_plain rfl (fun Ko hKo => ?_)
  go_simp
  refine hKo _ _ ?_
  clear hKo Ko
  try simp only [Act.put, nm1, nm2, nm3, i64_w]
  refine wpList_plain rfl (fun Ko hKo => ?_)
  go_simp
  refine hKo _ _ ?_
  clear hKo Ko
  try simp only [Act.put, nm1, nm2, nm3, i64_w]
  have h36 := (hb8.up (((hu13.out.trans hu17.out).trans hu21.out).trans hu33.out))
  by_cases c35 : (t30 == 0) = true
  ·
   rw [if_pos c35] at H
   have c35n : (t30 != 0) = false := by rw [bne, c35]; rfl
   simp only [Option.some.injEq, Prod.mk.injEq] at H
   obtain ⟨rfl, rfl⟩ := H
   try simp only [c35, c35n, Bool.not_true, Bool.not_false]
   refine step_no rfl ?_
   simp only [Act.put, nm1, nm2, nm3, i64_w]
   refine step_no rfl ?_
   simp only [Act.put, nm1, nm2, nm3, i64_w]
   refine step_no rfl ?_
   simp only [Act.put, nm1, nm2, nm3, i64_w]
   refine step_no rfl ?_
   simp only [Act.put, nm1, nm2, nm3, i64_w]
   refine step_no rfl ?_
   simp only [Act.put, nm1, nm2, nm3, i64_w]
   refine step_no rfl ?_
   simp only [Act.put, nm1, nm2, nm3, i64_w]
   refine step_no rfl ?_
   simp only [Act.put, nm1, nm2, nm3, i64_w]
   refine wpList_plain rfl (fun Ko hKo => ?_)
   go_simp
   refine hKo _ _ ?_
   clear hKo Ko
   try simp only [Act.put, nm1, nm2, nm3, i64_w]
   refine wpList_nil ?_
   (try simp only [Exit.then, Exit.inBlock, ↓reduceIte, Nat.reduceEqDiff])
   refine hK34 _ _ ?_
   refine wp_cond_true rfl ?_
   refine wp_region_lit ?_
   refine wpList_plain rfl (fun Ko hKo => ?_)
   go_simp
   refine hKo _ _ ?_
   clear hKo Ko
   try simp only [Act.put, nm1, nm2, nm3, i64_w]
   refine wpList_nil ?_
   (try simp only [Exit.then, Exit.inBlock, ↓reduceIte, Nat.reduceEqDiff])
   refine hK22 _ _ ?_
   refine wp_seq_k (fun K37 hK37 => ?_)
   refine wp_seq_k (fun K38 hK38 => ?_)
   refine wp_region_lit ?_
   refine wpList_plain rfl (fun Ko hKo => ?_)
   go_simp
   refine hKo _ _ ?_
   clear hKo Ko
   try simp only [Act.put, nm1, nm2, nm3, i64_w]
   refine wpList_plain rfl (fun Ko hKo => ?_)
   go_simp
   refine hKo _ _ ?_
   clear hKo Ko
   try simp only [Act.put, nm1, nm2, nm3, i64_w]
   refine wpList_nil ?_
   (try simp only [Exit.then, Exit.inBlock, ↓reduceIte, Nat.reduceEqDiff])
   refine hK38 _ _ ?_
   refine wp_cond_true rfl ?_
   refine wp_seq_k (fun K39 hK39 => ?_)
   refine wp_region_lit ?_
   refine wpList_plain rfl (fun Ko hKo => ?_)
   go_simp
   refine hKo _ _ ?_
   clear hKo Ko
   try simp only [Act.put, nm1, nm2, nm3, i64_w]
   refine wpList_plain rfl (fun Ko hKo => ?_)
   go_simp
   refine hKo _ _ ?_
   clear hKo Ko
   try simp only [Act.put, nm1, nm2, nm3, i64_w]
   refine wpList_plain rfl (fun Ko hKo => ?_)
   go_simp
   refine hKo _ _ ?_
   clear hKo Ko
   try simp only [Act.put, nm1, nm2, nm3, i64_w]
   refine wpList_nil ?_
   (try simp only [Exit.then, Exit.inBlock, ↓reduceIte, Nat.reduceEqDiff])
   refine hK39 _ _ ?_
   refine wp_ret ?_
   have h41 : Own e6 30 w32 w32.heap.size (.slice none ([] : List (Int × Int × Int × Int × Int × Int)).length 0) [] := Own.nil
   (try simp only [Exit.then, Exit.inBlock, ↓reduceIte, Nat.reduceEqDiff])
   refine hQf _ _ _ ?_
   exact bodyPost_ret (v := .tuple #[.slice none 0 0, .int .i64 5]) (by first | rfl | (simp [results, Try.results43, go_sem]; done) | (simp [results, Try.results43, go_sem]; rfl)) rfl ⟨none, 0, rfl, (h41.lower ((Nat.le_trans (hm26.out) hu33.out.size))), (hm25.out.trans hu33.out)⟩
  ·
   rw [if_neg c35] at H
   replace c35 := Bool.eq_false_iff.mpr c35
   have c35n : (t30 != 0) = true := by rw [bne, c35]; rfl
   have c35p : ¬ t30 = 0 := fun e => by simp [e] at c35
   replace H := Option.bind_eq_some_iff.mp H
   obtain ⟨t42, A43, H⟩ := H
   replace A43 := Aside0.mk A43
   try dsimp only at H
   try simp only [c35, c35n, Bool.not_true, Bool.not_false]
   refine wpList_step (fun Ko hKo => ?_)
   go_simp
   refine hKo _ _ ?_
   clear hKo Ko
   try simp only [Act.put, nm1, nm2, nm3, i64_w]
   refine wpList_step (fun Ko hKo => ?_)
   go_simp
   refine hKo _ _ ?_
   clear hKo Ko
   try simp only [Act.put, nm1, nm2, nm3, i64_w]
   refine wpList_step (fun Ko hKo => ?_)
   go_simp
   refine hKo _ _ ?_
   clear hKo Ko
   try simp only [Act.put, nm1, nm2, nm3, i64_w]
   have cl0 := h36.cell (o := 0) rfl
   have cl1 := h36.cell (o := 1) rfl
   refine wpList_step (fun Ko hKo => ?_)
   go_simp
   refine hKo _ _ ?_
   clear hKo Ko
   clear cl0 cl1
   try simp only [Act.put, nm1, nm2, nm3, i64_w]
   have cl0 := (hb11.up ((hu17.out.trans hu21.out).trans hu33.out)).cell (o := 0) rfl
   have cl1 := (hb11.up ((hu17.out.trans hu21.out).trans hu33.out)).cell (o := 1) rfl
   refine wpList_step (fun Ko hKo => ?_)
   go_simp
   refine hKo _ _ ?_
   clear hKo Ko
   clear cl0 cl1
   try simp only [Act.put, nm1, nm2, nm3, i64_w]
   refine step_call rfl (by first | (go_simp; done) | (go_simp; rfl)) (spec_l02Quadrance.calls K a0 a1 a4_0 a4_1 a5_0 a5_1 t42 w32  A43.out) ?_
   rintro e w44 ⟨rfl, hu⟩
   have hu45 := Aside0.mk hu
   clear hu
   refine ⟨_, rfl, ?_⟩
   simp only [Act.put, nm1, nm2, nm3, i64_w]
   refine wpList_step (fun Ko hKo => ?_)
   go_simp
   refine hKo _ _ ?_
   clear hKo Ko
   try simp only [Act.put, nm1, nm2, nm3, i64_w]
   refine wpList_plain rfl (fun Ko hKo => ?_)
   go_simp
   refine hKo _ _ ?_
   clear hKo Ko
   try simp only [Act.put, nm1, nm2, nm3, i64_w]
   refine wpList_nil ?_
   (try simp only [Exit.then, Exit.inBlock, ↓reduceIte, Nat.reduceEqDiff])
   refine hK34 _ _ ?_
   have h47 := (hb11.up (((hu17.out.trans hu21.out).trans hu33.out).trans hu45.out))
   by_cases c46 : (t30 == t42) = true
   ·
    rw [if_pos c46] at H
    have c46n : (t30 != t42) = false := by rw [bne, c46]; rfl
    replace H := Option.bind_eq_some_iff.mp H
    obtain ⟨t61, A64, H⟩ := H
    replace A64 := Aside0.mk A64
    try dsimp only at H
    try simp only [c46, c46n, Bool.not_true, Bool.not_false]
    refine wp_cond_false rfl ?_
    refine wp_skip ?_
    (try simp only [Exit.then, Exit.inBlock, ↓reduceIte, Nat.reduceEqDiff])
    refine hK22 _ _ ?_
    refine wp_seq_k (fun K48 hK48 => ?_)
    refine wp_seq_k (fun K49 hK49 => ?_)
    refine wp_region_lit ?_
    refine wpList_plain rfl (fun Ko hKo => ?_)
    go_simp
    refine hKo _ _ ?_
    clear hKo Ko
    try simp only [Act.put, nm1, nm2, nm3, i64_w]
    refine wpList_plain rfl (fun Ko hKo => ?_)
    go_simp
    refine hKo _ _ ?_
    clear hKo Ko
    try simp only [Act.put, nm1, nm2, nm3, i64_w]
    refine wpList_nil ?_
    (try simp only [Exit.then, Exit.inBlock, ↓reduceIte, Nat.reduceEqDiff])
    refine hK49 _ _ ?_
    refine wp_cond_false rfl ?_
    refine wp_skip ?_
    (try simp only [Exit.then, Exit.inBlock, ↓reduceIte, Nat.reduceEqDiff])
    refine hK48 _ _ ?_
    refine wp_seq_k (fun K50 hK50 => ?_)
    refine wp_region_lit ?_
    refine step_new (cs := []) (T := 30) (f := fun b => .slice (some ⟨b, 0, none⟩) 0 0) rfl (by first | (go_simp; done) | (go_simp; rfl)) ?_
    intro b51 w52 hu lb hb51
    simp only [Act.put, nm1, nm2, nm3, i64_w]
    have lbb51 := Aside0.mk lb
    have ltb51 := Aside0.mk hb51.lt
    clear lb
    have hu53 := Aside0.mk hu
    clear hu
    refine wpList_plain rfl (fun Ko hKo => ?_)
    go_simp
    refine hKo _ _ ?_
    clear hKo Ko
    try simp only [Act.put, nm1, nm2, nm3, i64_w]
    refine wpList_nil ?_
    (try simp only [Exit.then, Exit.inBlock, ↓reduceIte, Nat.reduceEqDiff])
    refine hK50 _ _ ?_
    refine wp_seq_k (fun K54 hK54 => ?_)
    refine wp_seq_k (fun K55 hK55 => ?_)
    refine wp_region_lit ?_
    refine wpList_plain rfl (fun Ko hKo => ?_)
    go_simp
    refine hKo _ _ ?_
    clear hKo Ko
    try simp only [Act.put, nm1, nm2, nm3, i64_w]
    refine wpList_nil ?_
    (try simp only [Exit.then, Exit.inBlock, ↓reduceIte, Nat.reduceEqDiff])
    refine hK55 _ _ ?_
    refine wp_block ?_
    refine wp_loop_rounds 40 ?_
    refine rounds_k (fun K56 hK56 => ?_)
    refine wp_seq_k (fun K57 hK57 => ?_)
    refine wp_seq_k (fun K58 hK58 => ?_)
    refine wp_region_lit ?_
    refine wpList_plain rfl (fun Ko hKo => ?_)
    go_simp
    refine hKo _ _ ?_
    clear hKo Ko
    try simp only [Act.put, nm1, nm2, nm3, i64_w]
    refine wpList_plain rfl (fun Ko hKo => ?_)
    go_simp
    refine hKo _ _ ?_
    clear hKo Ko
    try simp only [Act.put, nm1, nm2, nm3, i64_w]
    refine wpList_nil ?_
    (try simp only [Exit.then, Exit.inBlock, ↓reduceIte, Nat.reduceEqDiff])
    refine hK58 _ _ ?_
    refine wp_cond_true rfl ?_
    refine wp_skip ?_
    (try simp only [Exit.then, Exit.inBlock, ↓reduceIte, Nat.reduceEqDiff])
    refine hK57 _ _ ?_
    refine wp_seq_k (fun K59 hK59 => ?_)
    refine wp_block ?_
    refine wp_seq_k (fun K60 hK60 => ?_)
    refine wp_region_lit ?_
    refine wpList_plain rfl (fun Ko hKo => ?_)
    go_simp
    refine hKo _ _ ?_
    clear hKo Ko
    try simp only [Act.put, nm1, nm2, nm3, i64_w]
    refine wpList_plain rfl (fun Ko hKo => ?_)
    go_simp
    refine hKo _ _ ?_
    clear hKo Ko
    try simp only [Act.put, nm1, nm2, nm3, i64_w]
    refine wpList_plain rfl (fun Ko hKo => ?_)
    go_simp
    refine hKo _ _ ?_
    clear hKo Ko
    try simp only [Act.put, nm1, nm2, nm3, i64_w]
    refine step_call (wanted_none rfl) (by first | (go_simp; done) | (go_simp; rfl)) (spec_l07All.calls K a0 a1 (-1) t61 w52  A64.out) ?_
    rintro e w65 ⟨P62, q63, rfl, ht61, hu⟩
    have hu66 := Aside0.mk hu
    clear hu
    refine ⟨_, rfl, ?_⟩
    simp only [Act.put, nm1, nm2, nm3, i64_w]
    refine wpList_plain rfl (fun Ko hKo => ?_)
    go_simp
    refine hKo _ _ ?_
    clear hKo Ko
    try simp only [Act.put, nm1, nm2, nm3, i64_w]
    refine wpList_nil ?_
    (try simp only [Exit.then, Exit.inBlock, ↓reduceIte, Nat.reduceEqDiff])
    refine hK60 _ _ ?_
    refine wp_seq_k (fun K67 hK67 => ?_)
    refine wp_region_lit ?_
    refine wpList_plain rfl (fun Ko hKo => ?_)
    go_simp
    refine hKo _ _ ?_
    clear hKo Ko
    try simp only [Act.put, nm1, nm2, nm3, i64_w]
    refine wpList_nil ?_
    (try simp only [Exit.then, Exit.inBlock, ↓reduceIte, Nat.reduceEqDiff])
    refine hK67 _ _ ?_
    refine wp_block ?_
    have h69 : Own e6 30 w65 w44.heap.size (.slice (some ⟨b51, 0, none⟩) ([].length) 0) [] := Own.of_blk (hb51.up hu66.out) lbb51.out rfl (by simp) (by simp [Enc.flat, e6])
    have h70 : Own e6 30 w52 w44.heap.size (.slice (some ⟨b51, 0, none⟩) ([].length) 0) [] := Own.of_blk hb51 lbb51.out rfl (by simp) (by simp [Enc.flat, e6])
    have HL78 := Aside0.mk H
    clear H
    go_loopg [19, 16] K (fun kq v19 v16 w' => ∃ (x71 : Int) (x72 : List (Int × Int × Int × Int × Int × Int)) (P73 : Option Addr) (q74 : Nat), v19 = .int .i64 x71 ∧ v16 = .slice P73 x72.length q74 ∧ Aside0 (spec_MovesBetween.l0 K a0 a1 a2_0 a2_1 a3_0 a3_1 a4_0 a4_1 a5_0 a5_1 t61 kq x71 x72 = some (r0, r1)) ∧ Aside0 (kq ≤ K) ∧ Aside0 (Up w44 w') ∧ Aside0 (w65.heap.size ≤ w'.heap.size) ∧ Own e6 30 w' w52.heap.size (.slice P62 t61.length q63) t61 ∧ Own e6 30 w' w44.heap.size (.slice P73 x72.length q74) x72 ∧ Aside0 (∀ k, blk (.slice P73 x72.length q74) = some k → k ≠ b2) ∧ Aside0 (∀ k, blk (.slice P73 x72.length q74) = some k → k ≠ b5) ∧ Aside0 (∀ k, blk (.slice P73 x72.length q74) = some k → k ≠ b8) ∧ Aside0 (∀ k, blk (.slice P73 x72.length q74) = some k → k ≠ b11) ∧ Aside0 (∀ k, blk (.slice P73 x72.length q74) = some k → k ≠ b15) ∧ Aside0 (∀ k l, blk (.slice P73 x72.length q74) = some k → blk (.slice P62 t61.length q63) = some l → k ≠ l))
    case atStart => exact ⟨0, ([] : List (Int × Int × Int × Int × Int × Int)), some ⟨b51, 0, none⟩, 0, (by first | rfl | simp), (by first | rfl | simp), HL78, ⟨Nat.le_refl _⟩, ⟨(hu53.out.trans hu66.out)⟩, ⟨Nat.le_refl _⟩, ht61, h69, ⟨(fun k hk => Ne.symm ((fun k hk => Nat.ne_of_lt (Nat.lt_of_lt_of_le (Nat.lt_of_lt_of_le ltb2.out ((Nat.le_trans ((Nat.le_trans ((Nat.le_trans ((Nat.le_trans ((Nat.le_trans ((Nat.le_trans (hu7.out.size) hu10.out.size)) hu13.out.size)) hu17.out.size)) hu21.out.size)) hu33.out.size)) hu45.out.size))) ((fun k hk => Nat.le_trans (Nat.le_refl _) (h70.lt k hk).1) k hk))) k hk))⟩, ⟨(fun k hk => Ne.symm ((fun k hk => Nat.ne_of_lt (Nat.lt_of_lt_of_le (Nat.lt_of_lt_of_le ltb5.out ((Nat.le_trans ((Nat.le_trans ((Nat.le_trans ((Nat.le_trans ((Nat.le_trans (hu10.out.size) hu13.out.size)) hu17.out.size)) hu21.out.size)) hu33.out.size)) hu45.out.size))) ((fun k hk => Nat.le_trans (Nat.le_refl _) (h70.lt k hk).1) k hk))) k hk))⟩, ⟨(fun k hk => Ne.symm ((fun k hk => Nat.ne_of_lt (Nat.lt_of_lt_of_le (Nat.lt_of_lt_of_le ltb8.out ((Nat.le_trans ((Nat.le_trans ((Nat.le_trans ((Nat.le_trans (hu13.out.size) hu17.out.size)) hu21.out.size)) hu33.out.size)) hu45.out.size))) ((fun k hk => Nat.le_trans (Nat.le_refl _) (h70.lt k hk).1) k hk))) k hk))⟩, ⟨(fun k hk => Ne.symm ((fun k hk => Nat.ne_of_lt (Nat.lt_of_lt_of_le (Nat.lt_of_lt_of_le ltb11.out ((Nat.le_trans ((Nat.le_trans ((Nat.le_trans (hu17.out.size) hu21.out.size)) hu33.out.size)) hu45.out.size))) ((fun k hk => Nat.le_trans (Nat.le_refl _) (h70.lt k hk).1) k hk))) k hk))⟩, ⟨(fun k hk => Ne.symm ((fun k hk => Nat.ne_of_lt (Nat.lt_of_lt_of_le (Nat.lt_of_lt_of_le ltb15.out ((Nat.le_trans ((Nat.le_trans (hu21.out.size) hu33.out.size)) hu45.out.size))) ((fun k hk => Nat.le_trans (Nat.le_refl _) (h70.lt k hk).1) k hk))) k hk))⟩, ⟨(fun k l hk hl => Nat.ne_of_lt (Nat.lt_of_lt_of_le ((fun k hk => Nat.lt_of_lt_of_le (h70.lt k hk).2 (Nat.le_refl _)) k hk) ((fun k hk => Nat.le_trans (Nat.le_refl _) (ht61.lt k hk).1) l hl)))⟩⟩
    case round =>
     rename_i J90 K91 hJ90 hK91
     obtain ⟨x71, x72, P73, q74, rfl, rfl, HL89, hk88, hu76, hz77, h79, h80, hn81, hn82, hn83, hn84, hn85, hn86⟩ := hrel
     obtain ⟨w75, rfl⟩ : ∃ wo : World, wo = wr := ⟨_, rfl⟩
     obtain ⟨k87, rfl⟩ | rfl : (∃ k, gk = k + 1) ∨ gk = 0 := by rcases gk with _ | k; exact .inr rfl; exact .inl ⟨k, rfl⟩
     case inr => exact absurd HL89.out (by simp [spec_MovesBetween.l0])
     have H := HL89.out
     clear HL89
     rw [spec_MovesBetween.l0] at H
     refine wp_seq_k (fun K92 hK92 => ?_)
     refine wp_seq_k (fun K93 hK93 => ?_)
     refine wp_region_lit ?_
     refine wpList_plain rfl (fun Ko hKo => ?_)
     go_simp
     refine hKo _ _ ?_
     clear hKo Ko
     try simp only [Act.put, nm1, nm2, nm3, i64_w]
     refine wpList_plain rfl (fun Ko hKo => ?_)
     go_simp
     refine hKo _ _ ?_
     clear hKo Ko
     try simp only [Act.put, nm1, nm2, nm3, i64_w]
     refine wpList_plain rfl (fun Ko hKo => ?_)
     go_simp
     refine hKo _ _ ?_
     clear hKo Ko
     try simp only [Act.put, nm1, nm2, nm3, i64_w]
     refine wpList_plain rfl (fun Ko hKo => ?_)
     go_simp
     refine hKo _ _ ?_
     clear hKo Ko
     try simp only [Act.put, nm1, nm2, nm3, i64_w]
     refine wpList_nil ?_
     (try simp only [Exit.then, Exit.inBlock, ↓reduceIte, Nat.reduceEqDiff])
     refine hK93 _ _ ?_
     have hm95 := Aside0.mk (Nat.le_trans ((Nat.le_trans ((Nat.le_trans ((Nat.le_trans ((Nat.le_trans (hm26.out) hu33.out.size)) hu45.out.size)) hu53.out.size)) hu66.out.size)) hz77.out)
     have h96 := (hb15.up (((hu21.out.trans hu33.out).trans hu45.out).trans hu76.out))
     by_cases c94 : (decide (x71 < (t61.length : Int))) = true
     ·
      rw [if_pos c94] at H
      replace H := Option.bind_eq_some_iff.mp H
      obtain ⟨⟨t99, t100, t101, t102, t103, t104⟩, A105, H⟩ := H
      replace A105 := Aside0.mk A105
      try dsimp only at H
      replace H := Option.bind_eq_some_iff.mp H
      obtain ⟨⟨t116, t117⟩, A118, H⟩ := H
      replace A118 := Aside0.mk A118
      try dsimp only at H
      replace H := Option.bind_eq_some_iff.mp H
      obtain ⟨⟨t119, t120⟩, A121, H⟩ := H
      replace A121 := Aside0.mk A121
      try dsimp only at H
      replace H := Option.bind_eq_some_iff.mp H
      obtain ⟨⟨t128, t129⟩, A130, H⟩ := H
      replace A130 := Aside0.mk A130
      try dsimp only at H
      try simp only [c94, Bool.not_true, Bool.not_false]
      refine wp_cond_true rfl ?_
      refine wp_skip ?_
      (try simp only [Exit.then, Exit.inBlock, ↓reduceIte, Nat.reduceEqDiff])
      refine hK92 _ _ ?_
      refine wp_seq_k (fun K97 hK97 => ?_)
      refine wp_block ?_
      refine wp_seq_k (fun K98 hK98 => ?_)
      refine wp_region_lit ?_
      refine wpList_plain rfl (fun Ko hKo => ?_)
      go_simp
      refine hKo _ _ ?_
      clear hKo Ko
      try simp only [Act.put, nm1, nm2, nm3, i64_w]
      refine wpList_plain rfl (fun Ko hKo => ?_)
      go_simp
      refine hKo _ _ ?_
      clear hKo Ko
      try simp only [Act.put, nm1, nm2, nm3, i64_w]
      refine step_index e6 (T := 30) (wanted_none rfl) rfl (by kernel_rfl) (by kernel_rfl) rfl rfl rfl h79.rd A105.out ?_
      intro ad106 hat he
      have he107 := Aside0.mk he
      have hat108 := Aside0.mk hat
      clear he hat
      simp only [Act.put, nm1, nm2, nm3, i64_w]
      have cl0 := he107.out 0 _ rfl
      rw [addr_add0] at cl0
      have cl1 : World.cell? _ ⟨ad106.block, ad106.off + 1, none⟩ = some _ := he107.out 1 _ rfl
      have cl2 : World.cell? _ ⟨ad106.block, ad106.off + 2, none⟩ = some _ := he107.out 2 _ rfl
      have cl3 : World.cell? _ ⟨ad106.block, ad106.off + 3, none⟩ = some _ := he107.out 3 _ rfl
      have cl4 : World.cell? _ ⟨ad106.block, ad106.off + 4, none⟩ = some _ := he107.out 4 _ rfl
      have cl5 : World.cell? _ ⟨ad106.block, ad106.off + 5, none⟩ = some _ := he107.out 5 _ rfl
      refine wpList_plain rfl (fun Ko hKo => ?_)
      go_simp
      refine hKo _ _ ?_
      clear hKo Ko
      clear cl0 cl1 cl2 cl3 cl4 cl5
      try simp only [Act.put, nm1, nm2, nm3, i64_w]
      refine step_new (cs := [.int .i64 0, .int .i64 0, .int .i64 0, .int .i64 0, .int .i64 0, .int .i64 0]) (T := 30) (f := fun b => .pointer (some ⟨b, 0, none⟩)) rfl (by first | (go_simp; done) | (go_simp; rfl)) ?_
      intro b109 w110 hu lb hb109
      simp only [Act.put, nm1, nm2, nm3, i64_w]
      have lbb109 := Aside0.mk lb
      have ltb109 := Aside0.mk hb109.lt
      clear lb
      have hu111 := Aside0.mk hu
      clear hu
      have hB0 := hb109
      have cl0 := hB0.cell (o := 0) rfl
      have fr0 := hB0.free 0
      have cl1 := hB0.cell (o := 1) rfl
      have fr1 := hB0.free 1
      have cl2 := hB0.cell (o := 2) rfl
      have fr2 := hB0.free 2
      have cl3 := hB0.cell (o := 3) rfl
      have fr3 := hB0.free 3
      have cl4 := hB0.cell (o := 4) rfl
      have fr4 := hB0.free 4
      have cl5 := hB0.cell (o := 5) rfl
      have fr5 := hB0.free 5
      refine step_store (b := b109) (cs' := [.int .i64 t99, .int .i64 t100, .int .i64 t101, .int .i64 t102, .int .i64 t103, .int .i64 t104]) (T := 30) (W' := ((((((w110.setCell ⟨b109, 0, none⟩ (.int .i64 t99)).setCell ⟨b109, 1, none⟩ (.int .i64 t100)).setCell ⟨b109, 2, none⟩ (.int .i64 t101)).setCell ⟨b109, 3, none⟩ (.int .i64 t102)).setCell ⟨b109, 4, none⟩ (.int .i64 t103)).setCell ⟨b109, 5, none⟩ (.int .i64 t104))) rfl rfl (by first | (go_simp; done) | (go_simp; rfl)) (((((((Sto.refl _ _).setCell 0 _).setCell 1 _).setCell 2 _).setCell 3 _).setCell 4 _).setCell 5 _) (((((((hB0).setCell 0 _).setCell 1 _).setCell 2 _).setCell 3 _).setCell 4 _).setCell 5 _) ?_
      clear hB0 cl0 fr0 cl1 fr1 cl2 fr2 cl3 fr3 cl4 fr4 cl5 fr5
      intro w112 hs hb114
      have hs113 := Aside0.mk hs
      clear hs
      refine wpList_nil ?_
      (try simp only [Exit.then, Exit.inBlock, ↓reduceIte, Nat.reduceEqDiff])
      refine hK98 _ _ ?_
      refine wp_seq_k (fun K115 hK115 => ?_)
      refine' wp_region_up 8 [Slot.det _, Slot.det _, Slot.det _, Slot.det _, Slot.det _, Slot.det (.agg #[.int .i64 t116, .int .i64 t117]), Slot.det (.agg #[.int .i64 t119, .int .i64 t120]), Slot.det _] (by kernel_rfl) (by kernel_rfl) ?main
      case main =>
       simp only [List.take_succ_cons, List.take_zero]
       refine wpK_ops rfl (fun w1 hu => ?_) ?_
       · clear hu
         go_simp
         first | done | rfl
       simp only [Act.put, nm1, nm2, nm3, i64_w]
       refine wpK_ops rfl (fun w1 hu => ?_) ?_
       · have cl0 := ((h36.up (((hu45.out.trans hu76.out).trans hu111.out).sto (Nat.le_trans ((Nat.le_trans ((Nat.le_trans ((Nat.le_trans (hu45.out.size) hu53.out.size)) hu66.out.size)) hz77.out)) lbb109.out) hs113.out)).up ((Up.refl _).drew.trans hu)).cell (o := 0) rfl
         have cl1 := ((h36.up (((hu45.out.trans hu76.out).trans hu111.out).sto (Nat.le_trans ((Nat.le_trans ((Nat.le_trans ((Nat.le_trans (hu45.out.size) hu53.out.size)) hu66.out.size)) hz77.out)) lbb109.out) hs113.out)).up ((Up.refl _).drew.trans hu)).cell (o := 1) rfl
         go_simp
         first | done | rfl
       simp only [Act.put, nm1, nm2, nm3, i64_w]
       refine wpK_ops rfl (fun w1 hu => ?_) ?_
       · clear hu
         go_simp
         first | done | rfl
       simp only [Act.put, nm1, nm2, nm3, i64_w]
       refine wpK_ops rfl (fun w1 hu => ?_) ?_
       · have cl0 := (hb114.up ((Up.refl _).drew.trans hu)).cell (o := 0) rfl
         have cl1 := (hb114.up ((Up.refl _).drew.trans hu)).cell (o := 1) rfl
         have cl2 := (hb114.up ((Up.refl _).drew.trans hu)).cell (o := 2) rfl
         have cl3 := (hb114.up ((Up.refl _).drew.trans hu)).cell (o := 3) rfl
         have cl4 := (hb114.up ((Up.refl _).drew.trans hu)).cell (o := 4) rfl
         have cl5 := (hb114.up ((Up.refl _).drew.trans hu)).cell (o := 5) rfl
         go_simp
         first | done | rfl
       simp only [Act.put, nm1, nm2, nm3, i64_w]
       refine wpK_ops rfl (fun w1 hu => ?_) ?_
       · have cl0 := ((h27.up ((((hu33.out.trans hu45.out).trans hu76.out).trans hu111.out).sto (Nat.le_trans ((Nat.le_trans ((Nat.le_trans ((Nat.le_trans ((Nat.le_trans (hu33.out.size) hu45.out.size)) hu53.out.size)) hu66.out.size)) hz77.out)) lbb109.out) hs113.out)).up ((Up.refl _).drew.trans hu)).cell (o := 0) rfl
         have cl1 := ((h27.up ((((hu33.out.trans hu45.out).trans hu76.out).trans hu111.out).sto (Nat.le_trans ((Nat.le_trans ((Nat.le_trans ((Nat.le_trans ((Nat.le_trans (hu33.out.size) hu45.out.size)) hu53.out.size)) hu66.out.size)) hz77.out)) lbb109.out) hs113.out)).up ((Up.refl _).drew.trans hu)).cell (o := 1) rfl
         go_simp
         first | done | rfl
       simp only [Act.put, nm1, nm2, nm3, i64_w]
       refine wpK_ops rfl (fun w1 hu => ?_) ?_
       · have hcl := (spec_l07Lead.calls K a0 t99 t100 t101 t102 t103 t104 a2_0 a2_1 t116 t117 w1  A118.out)
         clear hu
         replace hcl := Aside0.mk hcl
         go_simp
         exact hcl.out
       simp only [Act.put, nm1, nm2, nm3, i64_w]
       refine wpK_ops rfl (fun w1 hu => ?_) ?_
       · have hcl := (spec_l01Minus.calls K a0 a4_0 a4_1 t116 t117 t119 t120 w1  A121.out)
         clear hu
         replace hcl := Aside0.mk hcl
         go_simp
         exact hcl.out
       simp only [Act.put, nm1, nm2, nm3, i64_w]
       refine wpK_ops rfl (fun w1 hu => ?_) ?_
       · clear hu
         go_simp
         first | done | rfl
       simp only [Act.put, nm1, nm2, nm3, i64_w]
       refine wpK_nil ?_
       intro w122 hu hap
       simp only [List.drop_succ_cons, List.drop_zero]
       replace hu := (Up.refl _).drew.trans hu
       clear hap
       have hu123 := Aside0.mk hu
       clear hu
       have hB0 := (hb114.up hu123.out)
       have cl0 := hB0.cell (o := 4) rfl
       have fr0 := hB0.free 4
       have cl1 := hB0.cell (o := 5) rfl
       have fr1 := hB0.free 5
       refine step_store (b := b109) (cs' := [.int .i64 t99, .int .i64 t100, .int .i64 t101, .int .i64 t102, .int .i64 t119, .int .i64 t120]) (T := 30) (W' := ((w122.setCell ⟨b109, 4, none⟩ (.int .i64 t119)).setCell ⟨b109, 5, none⟩ (.int .i64 t120))) rfl rfl (by first | (go_simp; done) | (go_simp; rfl)) (((Sto.refl _ _).setCell 4 _).setCell 5 _) (((hB0).setCell 4 _).setCell 5 _) ?_
       clear hB0 cl0 fr0 cl1 fr1
       intro w124 hs hb126
       have hs125 := Aside0.mk hs
       clear hs
       refine wpList_nil ?_
       (try simp only [Exit.then, Exit.inBlock, ↓reduceIte, Nat.reduceEqDiff])
       refine hK115 _ _ ?_
       refine wp_seq_k (fun K127 hK127 => ?_)
       refine' wp_region_up 6 [Slot.det _, Slot.det _, Slot.det _, Slot.det (.agg #[.int .i64 t128, .int .i64 t129]), Slot.det _, Slot.det _] (by kernel_rfl) (by kernel_rfl) ?main
       case main =>
        simp only [List.take_succ_cons, List.take_zero]
        refine wpK_ops rfl (fun w1 hu => ?_) ?_
        · clear hu
          go_simp
          first | done | rfl
        simp only [Act.put, nm1, nm2, nm3, i64_w]
        refine wpK_ops rfl (fun w1 hu => ?_) ?_
        · have cl0 := (hb126.up ((Up.refl _).drew.trans hu)).cell (o := 0) rfl
          have cl1 := (hb126.up ((Up.refl _).drew.trans hu)).cell (o := 1) rfl
          have cl2 := (hb126.up ((Up.refl _).drew.trans hu)).cell (o := 2) rfl
          have cl3 := (hb126.up ((Up.refl _).drew.trans hu)).cell (o := 3) rfl
          have cl4 := (hb126.up ((Up.refl _).drew.trans hu)).cell (o := 4) rfl
          have cl5 := (hb126.up ((Up.refl _).drew.trans hu)).cell (o := 5) rfl
          go_simp
          first | done | rfl
        simp only [Act.put, nm1, nm2, nm3, i64_w]
        refine wpK_ops rfl (fun w1 hu => ?_) ?_
        · have cl0 := ((h28.up ((((((hu33.out.trans hu45.out).trans hu76.out).trans hu111.out).sto (Nat.le_trans ((Nat.le_trans ((Nat.le_trans ((Nat.le_trans ((Nat.le_trans (hu33.out.size) hu45.out.size)) hu53.out.size)) hu66.out.size)) hz77.out)) lbb109.out) hs113.out).trans hu123.out).sto (Nat.le_trans ((Nat.le_trans ((Nat.le_trans ((Nat.le_trans ((Nat.le_trans (hu33.out.size) hu45.out.size)) hu53.out.size)) hu66.out.size)) hz77.out)) lbb109.out) hs125.out)).up ((Up.refl _).drew.trans hu)).cell (o := 0) rfl
          have cl1 := ((h28.up ((((((hu33.out.trans hu45.out).trans hu76.out).trans hu111.out).sto (Nat.le_trans ((Nat.le_trans ((Nat.le_trans ((Nat.le_trans ((Nat.le_trans (hu33.out.size) hu45.out.size)) hu53.out.size)) hu66.out.size)) hz77.out)) lbb109.out) hs113.out).trans hu123.out).sto (Nat.le_trans ((Nat.le_trans ((Nat.le_trans ((Nat.le_trans ((Nat.le_trans (hu33.out.size) hu45.out.size)) hu53.out.size)) hu66.out.size)) hz77.out)) lbb109.out) hs125.out)).up ((Up.refl _).drew.trans hu)).cell (o := 1) rfl
          go_simp
          first | done | rfl
        simp only [Act.put, nm1, nm2, nm3, i64_w]
        refine wpK_ops rfl (fun w1 hu => ?_) ?_
        · have hcl := (spec_l07Move.calls K a0 t99 t100 t101 t102 t119 t120 a3_0 a3_1 t128 t129 w1  A130.out)
          clear hu
          replace hcl := Aside0.mk hcl
          go_simp
          exact hcl.out
        simp only [Act.put, nm1, nm2, nm3, i64_w]
        refine wpK_ops rfl (fun w1 hu => ?_) ?_
        · have cl0 := ((h47.up ((((hu76.out.trans hu111.out).sto (Nat.le_trans ((Nat.le_trans ((Nat.le_trans (hu53.out.size) hu66.out.size)) hz77.out)) lbb109.out) hs113.out).trans hu123.out).sto (Nat.le_trans ((Nat.le_trans ((Nat.le_trans (hu53.out.size) hu66.out.size)) hz77.out)) lbb109.out) hs125.out)).up ((Up.refl _).drew.trans hu)).cell (o := 0) rfl
          have cl1 := ((h47.up ((((hu76.out.trans hu111.out).sto (Nat.le_trans ((Nat.le_trans ((Nat.le_trans (hu53.out.size) hu66.out.size)) hz77.out)) lbb109.out) hs113.out).trans hu123.out).sto (Nat.le_trans ((Nat.le_trans ((Nat.le_trans (hu53.out.size) hu66.out.size)) hz77.out)) lbb109.out) hs125.out)).up ((Up.refl _).drew.trans hu)).cell (o := 1) rfl
          go_simp
          first | done | rfl
        simp only [Act.put, nm1, nm2, nm3, i64_w]
        refine wpK_ops rfl (fun w1 hu => ?_) ?_
        · clear hu
          go_simp
          first | done | rfl
        simp only [Act.put, nm1, nm2, nm3, i64_w]
        refine wpK_nil ?_
        intro w131 hu hap
        simp only [List.drop_succ_cons, List.drop_zero]
        replace hu := (Up.refl _).drew.trans hu
        clear hap
        have hu132 := Aside0.mk hu
        clear hu
        refine wpList_nil ?_
        (try simp only [Exit.then, Exit.inBlock, ↓reduceIte, Nat.reduceEqDiff])
        refine hK127 _ _ ?_
        have hm134 := Aside0.mk ((((((((hm25.out.trans hu33.out).trans hu45.out).trans hu76.out).trans hu111.out).sto (Nat.le_trans (hm95.out) lbb109.out) hs113.out).trans hu123.out).sto (Nat.le_trans (hm95.out) lbb109.out) hs125.out).trans hu132.out)
        have hm135 := Aside0.mk (Nat.le_trans ((Nat.le_trans ((Nat.le_trans ((Nat.le_trans ((Nat.le_trans (hm95.out) hu111.out.size)) (Nat.le_of_eq hs113.out.size.symm))) hu123.out.size)) (Nat.le_of_eq hs125.out.size.symm))) hu132.out.size)
        have hm136 := Aside0.mk (((((hu76.out.trans hu111.out).sto (Nat.le_trans ((Nat.le_trans ((Nat.le_trans (hu53.out.size) hu66.out.size)) hz77.out)) lbb109.out) hs113.out).trans hu123.out).sto (Nat.le_trans ((Nat.le_trans ((Nat.le_trans (hu53.out.size) hu66.out.size)) hz77.out)) lbb109.out) hs125.out).trans hu132.out)
        have hm137 := Aside0.mk (Nat.le_trans ((Nat.le_trans ((Nat.le_trans ((Nat.le_trans ((Nat.le_trans ((Nat.le_trans ((Nat.le_trans (hu53.out.size) hu66.out.size)) hz77.out)) hu111.out.size)) (Nat.le_of_eq hs113.out.size.symm))) hu123.out.size)) (Nat.le_of_eq hs125.out.size.symm))) hu132.out.size)
        have hm138 := Aside0.mk (Nat.le_trans ((Nat.le_trans ((Nat.le_trans ((Nat.le_trans ((Nat.le_trans ((Nat.le_trans (Nat.le_refl _) hz77.out)) hu111.out.size)) (Nat.le_of_eq hs113.out.size.symm))) hu123.out.size)) (Nat.le_of_eq hs125.out.size.symm))) hu132.out.size)
        have h139 := (h27.up (((((((hu33.out.trans hu45.out).trans hu76.out).trans hu111.out).sto (Nat.le_trans ((Nat.le_trans ((Nat.le_trans ((Nat.le_trans ((Nat.le_trans (hu33.out.size) hu45.out.size)) hu53.out.size)) hu66.out.size)) hz77.out)) lbb109.out) hs113.out).trans hu123.out).sto (Nat.le_trans ((Nat.le_trans ((Nat.le_trans ((Nat.le_trans ((Nat.le_trans (hu33.out.size) hu45.out.size)) hu53.out.size)) hu66.out.size)) hz77.out)) lbb109.out) hs125.out).trans hu132.out))
        have h140 := (h28.up (((((((hu33.out.trans hu45.out).trans hu76.out).trans hu111.out).sto (Nat.le_trans ((Nat.le_trans ((Nat.le_trans ((Nat.le_trans ((Nat.le_trans (hu33.out.size) hu45.out.size)) hu53.out.size)) hu66.out.size)) hz77.out)) lbb109.out) hs113.out).trans hu123.out).sto (Nat.le_trans ((Nat.le_trans ((Nat.le_trans ((Nat.le_trans ((Nat.le_trans (hu33.out.size) hu45.out.size)) hu53.out.size)) hu66.out.size)) hz77.out)) lbb109.out) hs125.out).trans hu132.out))
        have h141 := (h36.up ((((((hu45.out.trans hu76.out).trans hu111.out).sto (Nat.le_trans ((Nat.le_trans ((Nat.le_trans ((Nat.le_trans (hu45.out.size) hu53.out.size)) hu66.out.size)) hz77.out)) lbb109.out) hs113.out).trans hu123.out).sto (Nat.le_trans ((Nat.le_trans ((Nat.le_trans ((Nat.le_trans (hu45.out.size) hu53.out.size)) hu66.out.size)) hz77.out)) lbb109.out) hs125.out).trans hu132.out))
        have h142 := (h96.up ((((hu111.out.sto (Nat.le_trans (Nat.le_refl _) lbb109.out) hs113.out).trans hu123.out).sto (Nat.le_trans (Nat.le_refl _) lbb109.out) hs125.out).trans hu132.out))
        by_cases c133 : (t128 == a5_0 && t129 == a5_1) = true
        ·
         rw [if_pos c133] at H
         replace H := Option.bind_eq_some_iff.mp H
         obtain ⟨t143, A146, H⟩ := H
         replace A146 := Aside0.mk A146
         try dsimp only at H
         have HL149 := Aside0.mk H
         clear H
         try simp only [c133, Bool.not_true, Bool.not_false]
         refine wp_cond_true rfl ?_
         refine wp_region_lit ?_
         refine wpList_plain rfl (fun Ko hKo => ?_)
         go_simp
         refine hKo _ _ ?_
         clear hKo Ko
         try simp only [Act.put, nm1, nm2, nm3, i64_w]
         have cl0 := (hb126.up hu132.out).cell (o := 0) rfl
         have cl1 := (hb126.up hu132.out).cell (o := 1) rfl
         have cl2 := (hb126.up hu132.out).cell (o := 2) rfl
         have cl3 := (hb126.up hu132.out).cell (o := 3) rfl
         have cl4 := (hb126.up hu132.out).cell (o := 4) rfl
         have cl5 := (hb126.up hu132.out).cell (o := 5) rfl
         refine wpList_plain rfl (fun Ko hKo => ?_)
         go_simp
         refine hKo _ _ ?_
         clear hKo Ko
         clear cl0 cl1 cl2 cl3 cl4 cl5
         try simp only [Act.put, nm1, nm2, nm3, i64_w]
         refine step_call (wanted_none rfl) (by first | (go_simp; done) | (go_simp; rfl)) (spec_l07Put.calls K P73 q74 x72 t99 t100 t101 t102 t119 t120 t143 w131 ((h80.up ((((hu111.out.sto (Nat.le_trans (Nat.le_refl _) lbb109.out) hs113.out).trans hu123.out).sto (Nat.le_trans (Nat.le_refl _) lbb109.out) hs125.out).trans hu132.out)).rd) (Own.cap (h80.up ((((hu111.out.sto (Nat.le_trans (Nat.le_refl _) lbb109.out) hs113.out).trans hu123.out).sto (Nat.le_trans (Nat.le_refl _) lbb109.out) hs125.out).trans hu132.out))) A146.out) ?_
         rintro e w147 ⟨P144, q145, rfl, ht143, hu⟩
         have hu148 := Aside0.mk hu
         clear hu
         refine ⟨_, rfl, ?_⟩
         simp only [Act.put, nm1, nm2, nm3, i64_w]
         refine wpList_plain rfl (fun Ko hKo => ?_)
         go_simp
         refine hKo _ _ ?_
         clear hKo Ko
         try simp only [Act.put, nm1, nm2, nm3, i64_w]
         refine wpList_nil ?_
         (try simp only [Exit.then, Exit.inBlock, ↓reduceIte, Nat.reduceEqDiff])
         refine hK97 _ _ ?_
         refine wp_region_lit ?_
         refine wpList_plain rfl (fun Ko hKo => ?_)
         go_simp
         refine hKo _ _ ?_
         clear hKo Ko
         try simp only [Act.put, nm1, nm2, nm3, i64_w]
         refine wpList_plain rfl (fun Ko hKo => ?_)
         go_simp
         refine hKo _ _ ?_
         clear hKo Ko
         try simp only [Act.put, nm1, nm2, nm3, i64_w]
         refine wpList_plain rfl (fun Ko hKo => ?_)
         go_simp
         refine hKo _ _ ?_
         clear hKo Ko
         try simp only [Act.put, nm1, nm2, nm3, i64_w]
         refine wpList_nil ?_
         (try simp only [Exit.then, Exit.inBlock, ↓reduceIte, Nat.reduceEqDiff])
         refine hK91 _ _ ?_
         go_roundg k87
         case measure => exact Nat.lt_succ_self _
         case rel => exact ⟨wrap64 (x71 + 1), t143, P144, q145, (by first | rfl | simp), (by first | rfl | simp), HL149, ⟨by have := hk88.out; omega⟩, ⟨(hm136.out.trans hu148.out)⟩, ⟨(Nat.le_trans (hm138.out) hu148.out.size)⟩, (h79.up (((((hu111.out.sto (Nat.le_trans (Nat.le_refl _) lbb109.out) hs113.out).trans hu123.out).sto (Nat.le_trans (Nat.le_refl _) lbb109.out) hs125.out).trans hu132.out).trans hu148.out)), (ht143.lower (hm137.out)), ⟨(fun k hk => Ne.symm ((fun k hk => Nat.ne_of_lt (Nat.lt_of_lt_of_le (Nat.lt_of_lt_of_le ltb2.out ((Nat.le_trans ((Nat.le_trans ((Nat.le_trans ((Nat.le_trans ((Nat.le_trans ((Nat.le_trans ((Nat.le_trans ((Nat.le_trans ((Nat.le_trans ((Nat.le_trans ((Nat.le_trans ((Nat.le_trans ((Nat.le_trans ((Nat.le_trans (hu7.out.size) hu10.out.size)) hu13.out.size)) hu17.out.size)) hu21.out.size)) hu33.out.size)) hu45.out.size)) hu53.out.size)) hu66.out.size)) hz77.out)) hu111.out.size)) (Nat.le_of_eq hs113.out.size.symm))) hu123.out.size)) (Nat.le_of_eq hs125.out.size.symm))) hu132.out.size))) ((fun k hk => Nat.le_trans (Nat.le_refl _) (ht143.lt k hk).1) k hk))) k hk))⟩, ⟨(fun k hk => Ne.symm ((fun k hk => Nat.ne_of_lt (Nat.lt_of_lt_of_le (Nat.lt_of_lt_of_le ltb5.out ((Nat.le_trans ((Nat.le_trans ((Nat.le_trans ((Nat.le_trans ((Nat.le_trans ((Nat.le_trans ((Nat.le_trans ((Nat.le_trans ((Nat.le_trans ((Nat.le_trans ((Nat.le_trans ((Nat.le_trans ((Nat.le_trans (hu10.out.size) hu13.out.size)) hu17.out.size)) hu21.out.size)) hu33.out.size)) hu45.out.size)) hu53.out.size)) hu66.out.size)) hz77.out)) hu111.out.size)) (Nat.le_of_eq hs113.out.size.symm))) hu123.out.size)) (Nat.le_of_eq hs125.out.size.symm))) hu132.out.size))) ((fun k hk => Nat.le_trans (Nat.le_refl _) (ht143.lt k hk).1) k hk))) k hk))⟩, ⟨(fun k hk => Ne.symm ((fun k hk => Nat.ne_of_lt (Nat.lt_of_lt_of_le (Nat.lt_of_lt_of_le ltb8.out ((Nat.le_trans ((Nat.le_trans ((Nat.le_trans ((Nat.le_trans ((Nat.le_trans ((Nat.le_trans ((Nat.le_trans ((Nat.le_trans ((Nat.le_trans ((Nat.le_trans ((Nat.le_trans ((Nat.le_trans (hu13.out.size) hu17.out.size)) hu21.out.size)) hu33.out.size)) hu45.out.size)) hu53.out.size)) hu66.out.size)) hz77.out)) hu111.out.size)) (Nat.le_of_eq hs113.out.size.symm))) hu123.out.size)) (Nat.le_of_eq hs125.out.size.symm))) hu132.out.size))) ((fun k hk => Nat.le_trans (Nat.le_refl _) (ht143.lt k hk).1) k hk))) k hk))⟩, ⟨(fun k hk => Ne.symm ((fun k hk => Nat.ne_of_lt (Nat.lt_of_lt_of_le (Nat.lt_of_lt_of_le ltb11.out ((Nat.le_trans ((Nat.le_trans ((Nat.le_trans ((Nat.le_trans ((Nat.le_trans ((Nat.le_trans ((Nat.le_trans ((Nat.le_trans ((Nat.le_trans ((Nat.le_trans ((Nat.le_trans (hu17.out.size) hu21.out.size)) hu33.out.size)) hu45.out.size)) hu53.out.size)) hu66.out.size)) hz77.out)) hu111.out.size)) (Nat.le_of_eq hs113.out.size.symm))) hu123.out.size)) (Nat.le_of_eq hs125.out.size.symm))) hu132.out.size))) ((fun k hk => Nat.le_trans (Nat.le_refl _) (ht143.lt k hk).1) k hk))) k hk))⟩, ⟨(fun k hk => Ne.symm ((fun k hk => Nat.ne_of_lt (Nat.lt_of_lt_of_le (Nat.lt_of_lt_of_le ltb15.out ((Nat.le_trans ((Nat.le_trans ((Nat.le_trans ((Nat.le_trans ((Nat.le_trans ((Nat.le_trans ((Nat.le_trans ((Nat.le_trans ((Nat.le_trans ((Nat.le_trans (hu21.out.size) hu33.out.size)) hu45.out.size)) hu53.out.size)) hu66.out.size)) hz77.out)) hu111.out.size)) (Nat.le_of_eq hs113.out.size.symm))) hu123.out.size)) (Nat.le_of_eq hs125.out.size.symm))) hu132.out.size))) ((fun k hk => Nat.le_trans (Nat.le_refl _) (ht143.lt k hk).1) k hk))) k hk))⟩, ⟨(fun k l hk hl => Ne.symm ((fun k l hk hl => Nat.ne_of_lt (Nat.lt_of_lt_of_le ((fun k hk => Nat.lt_of_lt_of_le (ht61.lt k hk).2 (hm138.out)) k hk) ((fun k hk => Nat.le_trans (Nat.le_refl _) (ht143.lt k hk).1) l hl))) l k hl hk))⟩⟩
        ·
         rw [if_neg c133] at H
         replace c133 := Bool.eq_false_iff.mpr c133
         have HL150 := Aside0.mk H
         clear H
         try simp only [c133, Bool.not_true, Bool.not_false]
         refine wp_cond_false rfl ?_
         refine wp_skip ?_
         (try simp only [Exit.then, Exit.inBlock, ↓reduceIte, Nat.reduceEqDiff])
         refine hK97 _ _ ?_
         refine wp_region_lit ?_
         refine wpList_plain rfl (fun Ko hKo => ?_)
         go_simp
         refine hKo _ _ ?_
         clear hKo Ko
         try simp only [Act.put, nm1, nm2, nm3, i64_w]
         refine wpList_plain rfl (fun Ko hKo => ?_)
         go_simp
         refine hKo _ _ ?_
         clear hKo Ko
         try simp only [Act.put, nm1, nm2, nm3, i64_w]
         refine wpList_plain rfl (fun Ko hKo => ?_)
         go_simp
         refine hKo _ _ ?_
         clear hKo Ko
         try simp only [Act.put, nm1, nm2, nm3, i64_w]
         refine wpList_nil ?_
         (try simp only [Exit.then, Exit.inBlock, ↓reduceIte, Nat.reduceEqDiff])
         refine hK91 _ _ ?_
         go_roundg k87
         case measure => exact Nat.lt_succ_self _
         case rel => exact ⟨wrap64 (x71 + 1), x72, P73, q74, (by first | rfl | simp), (by first | rfl | simp), HL150, ⟨by have := hk88.out; omega⟩, ⟨hm136.out⟩, ⟨hm138.out⟩, (h79.up ((((hu111.out.sto (Nat.le_trans (Nat.le_refl _) lbb109.out) hs113.out).trans hu123.out).sto (Nat.le_trans (Nat.le_refl _) lbb109.out) hs125.out).trans hu132.out)), (h80.up ((((hu111.out.sto (Nat.le_trans (Nat.le_refl _) lbb109.out) hs113.out).trans hu123.out).sto (Nat.le_trans (Nat.le_refl _) lbb109.out) hs125.out).trans hu132.out)), ⟨hn81.out⟩, ⟨hn82.out⟩, ⟨hn83.out⟩, ⟨hn84.out⟩, ⟨hn85.out⟩, ⟨hn86.out⟩⟩
     ·
      rw [if_neg c94] at H
      replace c94 := Bool.eq_false_iff.mpr c94
      replace H := Option.bind_eq_some_iff.mp H
      obtain ⟨t156, A159, H⟩ := H
      replace A159 := Aside0.mk A159
      try dsimp only at H
      try simp only [c94, Bool.not_true, Bool.not_false]
      refine wp_cond_false rfl ?_
      refine wp_exit ?_
      (try simp only [Exit.then, Exit.inBlock, ↓reduceIte, Nat.reduceEqDiff])
      refine hK59 _ _ ?_
      refine wp_region_lit ?_
      refine wpList_plain rfl (fun Ko hKo => ?_)
      go_simp
      refine hKo _ _ ?_
      clear hKo Ko
      try simp only [Act.put, nm1, nm2, nm3, i64_w]
      refine wpList_plain rfl (fun Ko hKo => ?_)
      go_simp
      refine hKo _ _ ?_
      clear hKo Ko
      try simp only [Act.put, nm1, nm2, nm3, i64_w]
      try simp only [show wrap64 1 = 1 from wlit rfl]
      refine wpList_plain rfl (fun Ko hKo => ?_)
      go_simp
      refine hKo _ _ ?_
      clear hKo Ko
      try simp only [Act.put, nm1, nm2, nm3, i64_w]
      refine wpList_nil ?_
      (try simp only [Exit.then, Exit.inBlock, ↓reduceIte, Nat.reduceEqDiff])
      refine hK56 _ _ ?_
      refine rounds_k (fun K151 hK151 => ?_)
      refine wp_seq_k (fun K152 hK152 => ?_)
      refine wp_seq_k (fun K153 hK153 => ?_)
      refine wp_region_lit ?_
      refine wpList_plain rfl (fun Ko hKo => ?_)
      go_simp
      refine hKo _ _ ?_
      clear hKo Ko
      try simp only [Act.put, nm1, nm2, nm3, i64_w]
      refine wpList_plain rfl (fun Ko hKo => ?_)
      go_simp
      refine hKo _ _ ?_
      clear hKo Ko
      try simp only [Act.put, nm1, nm2, nm3, i64_w]
      refine wpList_nil ?_
      (try simp only [Exit.then, Exit.inBlock, ↓reduceIte, Nat.reduceEqDiff])
      refine hK153 _ _ ?_
      refine wp_cond_true rfl ?_
      refine wp_skip ?_
      (try simp only [Exit.then, Exit.inBlock, ↓reduceIte, Nat.reduceEqDiff])
      refine hK152 _ _ ?_
      refine wp_seq_k (fun K154 hK154 => ?_)
      refine wp_block ?_
      refine wp_seq_k (fun K155 hK155 => ?_)
      refine wp_region_lit ?_
      refine wpList_plain rfl (fun Ko hKo => ?_)
      go_simp
      refine hKo _ _ ?_
      clear hKo Ko
      try simp only [Act.put, nm1, nm2, nm3, i64_w]
      refine wpList_plain rfl (fun Ko hKo => ?_)
      go_simp
      refine hKo _ _ ?_
      clear hKo Ko
      try simp only [Act.put, nm1, nm2, nm3, i64_w]
      refine wpList_plain rfl (fun Ko hKo => ?_)
      go_simp
      refine hKo _ _ ?_
      clear hKo Ko
      try simp only [Act.put, nm1, nm2, nm3, i64_w]
      refine step_call (wanted_none rfl) (by first | (go_simp; done) | (go_simp; rfl)) (spec_l07All.calls K a0 a1 1 t156 w75  A159.out) ?_
      rintro e w160 ⟨P157, q158, rfl, ht156, hu⟩
      have hu161 := Aside0.mk hu
      clear hu
      refine ⟨_, rfl, ?_⟩
      simp only [Act.put, nm1, nm2, nm3, i64_w]
      refine wpList_plain rfl (fun Ko hKo => ?_)
      go_simp
      refine hKo _ _ ?_
      clear hKo Ko
      try simp only [Act.put, nm1, nm2, nm3, i64_w]
      refine wpList_nil ?_
      (try simp only [Exit.then, Exit.inBlock, ↓reduceIte, Nat.reduceEqDiff])
      refine hK155 _ _ ?_
      refine wp_seq_k (fun K162 hK162 => ?_)
      refine wp_region_lit ?_
      refine wpList_plain rfl (fun Ko hKo => ?_)
      go_simp
      refine hKo _ _ ?_
      clear hKo Ko
      try simp only [Act.put, nm1, nm2, nm3, i64_w]
      refine wpList_nil ?_
      (try simp only [Exit.then, Exit.inBlock, ↓reduceIte, Nat.reduceEqDiff])
      refine hK162 _ _ ?_
      refine wp_block ?_
      have HL170 := Aside0.mk H
      clear H
      go_loopg [19, 16] k87 (fun kq v19 v16 w' => ∃ (x163 : Int) (x164 : List (Int × Int × Int × Int × Int × Int)) (P165 : Option Addr) (q166 : Nat), v19 = .int .i64 x163 ∧ v16 = .slice P165 x164.length q166 ∧ Aside0 (spec_MovesBetween.l1 K a0 a2_0 a2_1 a3_0 a3_1 a4_0 a4_1 a5_0 a5_1 t156 kq x163 x164 = some (r0, r1)) ∧ Aside0 (kq ≤ k87) ∧ Aside0 (Up w44 w') ∧ Aside0 (w160.heap.size ≤ w'.heap.size) ∧ Own e6 30 w' w52.heap.size (.slice P62 t61.length q63) t61 ∧ Own e6 30 w' w44.heap.size (.slice P165 x164.length q166) x164 ∧ Own e6 30 w' w75.heap.size (.slice P157 t156.length q158) t156 ∧ Aside0 (∀ k, blk (.slice P165 x164.length q166) = some k → k ≠ b2) ∧ Aside0 (∀ k, blk (.slice P165 x164.length q166) = some k → k ≠ b5) ∧ Aside0 (∀ k, blk (.slice P165 x164.length q166) = some k → k ≠ b8) ∧ Aside0 (∀ k, blk (.slice P165 x164.length q166) = some k → k ≠ b11) ∧ Aside0 (∀ k, blk (.slice P165 x164.length q166) = some k → k ≠ b15) ∧ Aside0 (∀ k l, blk (.slice P165 x164.length q166) = some k → blk (.slice P62 t61.length q63) = some l → k ≠ l) ∧ Aside0 (∀ k l, blk (.slice P165 x164.length q166) = some k → blk (.slice P157 t156.length q158) = some l → k ≠ l))
      case atStart => exact ⟨0, x72, P73, q74, (by first | rfl | simp), (by first | rfl | simp), HL170, ⟨Nat.le_refl _⟩, ⟨(hu76.out.trans hu161.out)⟩, ⟨Nat.le_refl _⟩, (h79.up hu161.out), (h80.up hu161.out), ht156, ⟨hn81.out⟩, ⟨hn82.out⟩, ⟨hn83.out⟩, ⟨hn84.out⟩, ⟨hn85.out⟩, ⟨hn86.out⟩, ⟨(fun k l hk hl => Nat.ne_of_lt (Nat.lt_of_lt_of_le ((fun k hk => Nat.lt_of_lt_of_le (h80.lt k hk).2 (Nat.le_refl _)) k hk) ((fun k hk => Nat.le_trans (Nat.le_refl _) (ht156.lt k hk).1) l hl)))⟩⟩
      case round =>
       rename_i J184 K185 hJ184 hK185
       obtain ⟨x163, x164, P165, q166, rfl, rfl, HL183, hk182, hu168, hz169, h171, h172, h173, hn174, hn175, hn176, hn177, hn178, hn179, hn180⟩ := hrel
       obtain ⟨w167, rfl⟩ : ∃ wo : World, wo = wr := ⟨_, rfl⟩
       obtain ⟨k181, rfl⟩ | rfl : (∃ k, gk = k + 1) ∨ gk = 0 := by rcases gk with _ | k; exact .inr rfl; exact .inl ⟨k, rfl⟩
       case inr => exact absurd HL183.out (by simp [spec_MovesBetween.l1])
       have H := HL183.out
       clear HL183
       rw [spec_MovesBetween.l1] at H
       refine wp_seq_k (fun K186 hK186 => ?_)
       refine wp_seq_k (fun K187 hK187 => ?_)
       refine wp_region_lit ?_
       refine wpList_plain rfl (fun Ko hKo => ?_)
       go_simp
       refine hKo _ _ ?_
       clear hKo Ko
       try simp only [Act.put, nm1, nm2, nm3, i64_w]
       refine wpList_plain rfl (fun Ko hKo => ?_)
       go_simp
       refine hKo _ _ ?_
       clear hKo Ko
       try simp only [Act.put, nm1, nm2, nm3, i64_w]
       refine wpList_plain rfl (fun Ko hKo => ?_)
       go_simp
       refine hKo _ _ ?_
       clear hKo Ko
       try simp only [Act.put, nm1, nm2, nm3, i64_w]
       refine wpList_plain rfl (fun Ko hKo => ?_)
       go_simp
       refine hKo _ _ ?_
       clear hKo Ko
       try simp only [Act.put, nm1, nm2, nm3, i64_w]
       refine wpList_nil ?_
       (try simp only [Exit.then, Exit.inBlock, ↓reduceIte, Nat.reduceEqDiff])
       refine hK187 _ _ ?_
       have hm189 := Aside0.mk (Nat.le_trans ((Nat.le_trans ((Nat.le_trans ((Nat.le_trans (hu53.out.size) hu66.out.size)) hz77.out)) hu161.out.size)) hz169.out)
       have h190 := (hb15.up (((hu21.out.trans hu33.out).trans hu45.out).trans hu168.out))
       by_cases c188 : (decide (x163 < (t156.length : Int))) = true
       ·
        rw [if_pos c188] at H
        replace H := Option.bind_eq_some_iff.mp H
        obtain ⟨⟨t193, t194, t195, t196, t197, t198⟩, A199, H⟩ := H
        replace A199 := Aside0.mk A199
        try dsimp only at H
        replace H := Option.bind_eq_some_iff.mp H
        obtain ⟨⟨t210, t211⟩, A212, H⟩ := H
        replace A212 := Aside0.mk A212
        try dsimp only at H
        replace H := Option.bind_eq_some_iff.mp H
        obtain ⟨⟨t213, t214⟩, A215, H⟩ := H
        replace A215 := Aside0.mk A215
        try dsimp only at H
        replace H := Option.bind_eq_some_iff.mp H
        obtain ⟨⟨t222, t223⟩, A224, H⟩ := H
        replace A224 := Aside0.mk A224
        try dsimp only at H
        try simp only [c188, Bool.not_true, Bool.not_false]
        refine wp_cond_true rfl ?_
        refine wp_skip ?_
        (try simp only [Exit.then, Exit.inBlock, ↓reduceIte, Nat.reduceEqDiff])
        refine hK186 _ _ ?_
        refine wp_seq_k (fun K191 hK191 => ?_)
        refine wp_block ?_
        refine wp_seq_k (fun K192 hK192 => ?_)
        refine wp_region_lit ?_
        refine wpList_plain rfl (fun Ko hKo => ?_)
        go_simp
        refine hKo _ _ ?_
        clear hKo Ko
        try simp only [Act.put, nm1, nm2, nm3, i64_w]
        refine wpList_plain rfl (fun Ko hKo => ?_)
        go_simp
        refine hKo _ _ ?_
        clear hKo Ko
        try simp only [Act.put, nm1, nm2, nm3, i64_w]
        refine step_index e6 (T := 30) (wanted_none rfl) rfl (by kernel_rfl) (by kernel_rfl) rfl rfl rfl h173.rd A199.out ?_
        intro ad200 hat he
        have he201 := Aside0.mk he
        have hat202 := Aside0.mk hat
        clear he hat
        simp only [Act.put, nm1, nm2, nm3, i64_w]
        have cl0 := he201.out 0 _ rfl
        rw [addr_add0] at cl0
        have cl1 : World.cell? _ ⟨ad200.block, ad200.off + 1, none⟩ = some _ := he201.out 1 _ rfl
        have cl2 : World.cell? _ ⟨ad200.block, ad200.off + 2, none⟩ = some _ := he201.out 2 _ rfl
        have cl3 : World.cell? _ ⟨ad200.block, ad200.off + 3, none⟩ = some _ := he201.out 3 _ rfl
        have cl4 : World.cell? _ ⟨ad200.block, ad200.off + 4, none⟩ = some _ := he201.out 4 _ rfl
        have cl5 : World.cell? _ ⟨ad200.block, ad200.off + 5, none⟩ = some _ := he201.out 5 _ rfl
        refine wpList_plain rfl (fun Ko hKo => ?_)
        go_simp
        refine hKo _ _ ?_
        clear hKo Ko
        clear cl0 cl1 cl2 cl3 cl4 cl5
        try simp only [Act.put, nm1, nm2, nm3, i64_w]
        refine step_new (cs := [.int .i64 0, .int .i64 0, .int .i64 0, .int .i64 0, .int .i64 0, .int .i64 0]) (T := 30) (f := fun b => .pointer (some ⟨b, 0, none⟩)) rfl (by first | (go_simp; done) | (go_simp; rfl)) ?_
        intro b203 w204 hu lb hb203
        simp only [Act.put, nm1, nm2, nm3, i64_w]
        have lbb203 := Aside0.mk lb
        have ltb203 := Aside0.mk hb203.lt
        clear lb
        have hu205 := Aside0.mk hu
        clear hu
        have hB0 := hb203
        have cl0 := hB0.cell (o := 0) rfl
        have fr0 := hB0.free 0
        have cl1 := hB0.cell (o := 1) rfl
        have fr1 := hB0.free 1
        have cl2 := hB0.cell (o := 2) rfl
        have fr2 := hB0.free 2
        have cl3 := hB0.cell (o := 3) rfl
        have fr3 := hB0.free 3
        have cl4 := hB0.cell (o := 4) rfl
        have fr4 := hB0.free 4
        have cl5 := hB0.cell (o := 5) rfl
        have fr5 := hB0.free 5
        refine step_store (b := b203) (cs' := [.int .i64 t193, .int .i64 t194, .int .i64 t195, .int .i64 t196, .int .i64 t197, .int .i64 t198]) (T := 30) (W' := ((((((w204.setCell ⟨b203, 0, none⟩ (.int .i64 t193)).setCell ⟨b203, 1, none⟩ (.int .i64 t194)).setCell ⟨b203, 2, none⟩ (.int .i64 t195)).setCell ⟨b203, 3, none⟩ (.int .i64 t196)).setCell ⟨b203, 4, none⟩ (.int .i64 t197)).setCell ⟨b203, 5, none⟩ (.int .i64 t198))) rfl rfl (by first | (go_simp; done) | (go_simp; rfl)) (((((((Sto.refl _ _).setCell 0 _).setCell 1 _).setCell 2 _).setCell 3 _).setCell 4 _).setCell 5 _) (((((((hB0).setCell 0 _).setCell 1 _).setCell 2 _).setCell 3 _).setCell 4 _).setCell 5 _) ?_
        clear hB0 cl0 fr0 cl1 fr1 cl2 fr2 cl3 fr3 cl4 fr4 cl5 fr5
        intro w206 hs hb208
        have hs207 := Aside0.mk hs
        clear hs
        refine wpList_nil ?_
        (try simp only [Exit.then, Exit.inBlock, ↓reduceIte, Nat.reduceEqDiff])
        refine hK192 _ _ ?_
        refine wp_seq_k (fun K209 hK209 => ?_)
        refine' wp_region_up 8 [Slot.det _, Slot.det _, Slot.det _, Slot.det _, Slot.det _, Slot.det (.agg #[.int .i64 t210, .int .i64 t211]), Slot.det (.agg #[.int .i64 t213, .int .i64 t214]), Slot.det _] (by kernel_rfl) (by kernel_rfl) ?main
        case main =>
         simp only [List.take_succ_cons, List.take_zero]
         refine wpK_ops rfl (fun w1 hu => ?_) ?_
         · clear hu
           go_simp
           first | done | rfl
         simp only [Act.put, nm1, nm2, nm3, i64_w]
         refine wpK_ops rfl (fun w1 hu => ?_) ?_
         · have cl0 := ((h36.up (((hu45.out.trans hu168.out).trans hu205.out).sto (Nat.le_trans ((Nat.le_trans ((Nat.le_trans ((Nat.le_trans ((Nat.le_trans ((Nat.le_trans (hu45.out.size) hu53.out.size)) hu66.out.size)) hz77.out)) hu161.out.size)) hz169.out)) lbb203.out) hs207.out)).up ((Up.refl _).drew.trans hu)).cell (o := 0) rfl
           have cl1 := ((h36.up (((hu45.out.trans hu168.out).trans hu205.out).sto (Nat.le_trans ((Nat.le_trans ((Nat.le_trans ((Nat.le_trans ((Nat.le_trans ((Nat.le_trans (hu45.out.size) hu53.out.size)) hu66.out.size)) hz77.out)) hu161.out.size)) hz169.out)) lbb203.out) hs207.out)).up ((Up.refl _).drew.trans hu)).cell (o := 1) rfl
           go_simp
           first | done | rfl
         simp only [Act.put, nm1, nm2, nm3, i64_w]
         refine wpK_ops rfl (fun w1 hu => ?_) ?_
         · clear hu
           go_simp
           first | done | rfl
         simp only [Act.put, nm1, nm2, nm3, i64_w]
         refine wpK_ops rfl (fun w1 hu => ?_) ?_
         · have cl0 := (hb208.up ((Up.refl _).drew.trans hu)).cell (o := 0) rfl
           have cl1 := (hb208.up ((Up.refl _).drew.trans hu)).cell (o := 1) rfl
           have cl2 := (hb208.up ((Up.refl _).drew.trans hu)).cell (o := 2) rfl
           have cl3 := (hb208.up ((Up.refl _).drew.trans hu)).cell (o := 3) rfl
           have cl4 := (hb208.up ((Up.refl _).drew.trans hu)).cell (o := 4) rfl
           have cl5 := (hb208.up ((Up.refl _).drew.trans hu)).cell (o := 5) rfl
           go_simp
           first | done | rfl
         simp only [Act.put, nm1, nm2, nm3, i64_w]
         refine wpK_ops rfl (fun w1 hu => ?_) ?_
         · have cl0 := ((h27.up ((((hu33.out.trans hu45.out).trans hu168.out).trans hu205.out).sto (Nat.le_trans ((Nat.le_trans ((Nat.le_trans ((Nat.le_trans ((Nat.le_trans ((Nat.le_trans ((Nat.le_trans (hu33.out.size) hu45.out.size)) hu53.out.size)) hu66.out.size)) hz77.out)) hu161.out.size)) hz169.out)) lbb203.out) hs207.out)).up ((Up.refl _).drew.trans hu)).cell (o := 0) rfl
           have cl1 := ((h27.up ((((hu33.out.trans hu45.out).trans hu168.out).trans hu205.out).sto (Nat.le_trans ((Nat.le_trans ((Nat.le_trans ((Nat.le_trans ((Nat.le_trans ((Nat.le_trans ((Nat.le_trans (hu33.out.size) hu45.out.size)) hu53.out.size)) hu66.out.size)) hz77.out)) hu161.out.size)) hz169.out)) lbb203.out) hs207.out)).up ((Up.refl _).drew.trans hu)).cell (o := 1) rfl
           go_simp
           first | done | rfl
         simp only [Act.put, nm1, nm2, nm3, i64_w]
         refine wpK_ops rfl (fun w1 hu => ?_) ?_
         · have hcl := (spec_l07Lead.calls K a0 t193 t194 t195 t196 t197 t198 a2_0 a2_1 t210 t211 w1  A212.out)
           clear hu
           replace hcl := Aside0.mk hcl
           go_simp
           exact hcl.out
         simp only [Act.put, nm1, nm2, nm3, i64_w]
         refine wpK_ops rfl (fun w1 hu => ?_) ?_
         · have hcl := (spec_l01Minus.calls K a0 a4_0 a4_1 t210 t211 t213 t214 w1  A215.out)
           clear hu
           replace hcl := Aside0.mk hcl
           go_simp
           exact hcl.out
         simp only [Act.put, nm1, nm2, nm3, i64_w]
         refine wpK_ops rfl (fun w1 hu => ?_) ?_
         · clear hu
           go_simp
           first | done | rfl
         simp only [Act.put, nm1, nm2, nm3, i64_w]
         refine wpK_nil ?_
         intro w216 hu hap
         simp only [List.drop_succ_cons, List.drop_zero]
         replace hu := (Up.refl _).drew.trans hu
         clear hap
         have hu217 := Aside0.mk hu
         clear hu
         have hB0 := (hb208.up hu217.out)
         have cl0 := hB0.cell (o := 4) rfl
         have fr0 := hB0.free 4
         have cl1 := hB0.cell (o := 5) rfl
         have fr1 := hB0.free 5
         refine step_store (b := b203) (cs' := [.int .i64 t193, .int .i64 t194, .int .i64 t195, .int .i64 t196, .int .i64 t213, .int .i64 t214]) (T := 30) (W' := ((w216.setCell ⟨b203, 4, none⟩ (.int .i64 t213)).setCell ⟨b203, 5, none⟩ (.int .i64 t214))) rfl rfl (by first | (go_simp; done) | (go_simp; rfl)) (((Sto.refl _ _).setCell 4 _).setCell 5 _) (((hB0).setCell 4 _).setCell 5 _) ?_
         clear hB0 cl0 fr0 cl1 fr1
         intro w218 hs hb220
         have hs219 := Aside0.mk hs
         clear hs
         refine wpList_nil ?_
         (try simp only [Exit.then, Exit.inBlock, ↓reduceIte, Nat.reduceEqDiff])
         refine hK209 _ _ ?_
         refine wp_seq_k (fun K221 hK221 => ?_)
         refine' wp_region_up 6 [Slot.det _, Slot.det _, Slot.det _, Slot.det (.agg #[.int .i64 t222, .int .i64 t223]), Slot.det _, Slot.det _] (by kernel_rfl) (by kernel_rfl) ?main
         case main =>
          simp only [List.take_succ_cons, List.take_zero]
          refine wpK_ops rfl (fun w1 hu => ?_) ?_
          · clear hu
            go_simp
            first | done | rfl
          simp only [Act.put, nm1, nm2, nm3, i64_w]
          refine wpK_ops rfl (fun w1 hu => ?_) ?_
          · have cl0 := (hb220.up ((Up.refl _).drew.trans hu)).cell (o := 0) rfl
            have cl1 := (hb220.up ((Up.refl _).drew.trans hu)).cell (o := 1) rfl
            have cl2 := (hb220.up ((Up.refl _).drew.trans hu)).cell (o := 2) rfl
            have cl3 := (hb220.up ((Up.refl _).drew.trans hu)).cell (o := 3) rfl
            have cl4 := (hb220.up ((Up.refl _).drew.trans hu)).cell (o := 4) rfl
            have cl5 := (hb220.up ((Up.refl _).drew.trans hu)).cell (o := 5) rfl
            go_simp
            first | done | rfl
          simp only [Act.put, nm1, nm2, nm3, i64_w]
          refine wpK_ops rfl (fun w1 hu => ?_) ?_
          · have cl0 := ((h28.up ((((((hu33.out.trans hu45.out).trans hu168.out).trans hu205.out).sto (Nat.le_trans ((Nat.le_trans ((Nat.le_trans ((Nat.le_trans ((Nat.le_trans ((Nat.le_trans ((Nat.le_trans (hu33.out.size) hu45.out.size)) hu53.out.size)) hu66.out.size)) hz77.out)) hu161.out.size)) hz169.out)) lbb203.out) hs207.out).trans hu217.out).sto (Nat.le_trans ((Nat.le_trans ((Nat.le_trans ((Nat.le_trans ((Nat.le_trans ((Nat.le_trans ((Nat.le_trans (hu33.out.size) hu45.out.size)) hu53.out.size)) hu66.out.size)) hz77.out)) hu161.out.size)) hz169.out)) lbb203.out) hs219.out)).up ((Up.refl _).drew.trans hu)).cell (o := 0) rfl
            have cl1 := ((h28.up ((((((hu33.out.trans hu45.out).trans hu168.out).trans hu205.out).sto (Nat.le_trans ((Nat.le_trans ((Nat.le_trans ((Nat.le_trans ((Nat.le_trans ((Nat.le_trans ((Nat.le_trans (hu33.out.size) hu45.out.size)) hu53.out.size)) hu66.out.size)) hz77.out)) hu161.out.size)) hz169.out)) lbb203.out) hs207.out).trans hu217.out).sto (Nat.le_trans ((Nat.le_trans ((Nat.le_trans ((Nat.le_trans ((Nat.le_trans ((Nat.le_trans ((Nat.le_trans (hu33.out.size) hu45.out.size)) hu53.out.size)) hu66.out.size)) hz77.out)) hu161.out.size)) hz169.out)) lbb203.out) hs219.out)).up ((Up.refl _).drew.trans hu)).cell (o := 1) rfl
            go_simp
            first | done | rfl
          simp only [Act.put, nm1, nm2, nm3, i64_w]
          refine wpK_ops rfl (fun w1 hu => ?_) ?_
          · have hcl := (spec_l07Move.calls K a0 t193 t194 t195 t196 t213 t214 a3_0 a3_1 t222 t223 w1  A224.out)
            clear hu
            replace hcl := Aside0.mk hcl
            go_simp
            exact hcl.out
          simp only [Act.put, nm1, nm2, nm3, i64_w]
          refine wpK_ops rfl (fun w1 hu => ?_) ?_
          · have cl0 := ((h47.up ((((hu168.out.trans hu205.out).sto (Nat.le_trans (hm189.out) lbb203.out) hs207.out).trans hu217.out).sto (Nat.le_trans (hm189.out) lbb203.out) hs219.out)).up ((Up.refl _).drew.trans hu)).cell (o := 0) rfl
            have cl1 := ((h47.up ((((hu168.out.trans hu205.out).sto (Nat.le_trans (hm189.out) lbb203.out) hs207.out).trans hu217.out).sto (Nat.le_trans (hm189.out) lbb203.out) hs219.out)).up ((Up.refl _).drew.trans hu)).cell (o := 1) rfl
            go_simp
            first | done | rfl
          simp only [Act.put, nm1, nm2, nm3, i64_w]
          refine wpK_ops rfl (fun w1 hu => ?_) ?_
          · clear hu
            go_simp
            first | done | rfl
          simp only [Act.put, nm1, nm2, nm3, i64_w]
          refine wpK_nil ?_
          intro w225 hu hap
          simp only [List.drop_succ_cons, List.drop_zero]
          replace hu := (Up.refl _).drew.trans hu
          clear hap
          have hu226 := Aside0.mk hu
          clear hu
          refine wpList_nil ?_
          (try simp only [Exit.then, Exit.inBlock, ↓reduceIte, Nat.reduceEqDiff])
          refine hK221 _ _ ?_
          have hm228 := Aside0.mk ((((((((hm25.out.trans hu33.out).trans hu45.out).trans hu168.out).trans hu205.out).sto (Nat.le_trans ((Nat.le_trans ((Nat.le_trans (hm95.out) hu161.out.size)) hz169.out)) lbb203.out) hs207.out).trans hu217.out).sto (Nat.le_trans ((Nat.le_trans ((Nat.le_trans (hm95.out) hu161.out.size)) hz169.out)) lbb203.out) hs219.out).trans hu226.out)
          have hm229 := Aside0.mk (Nat.le_trans ((Nat.le_trans ((Nat.le_trans ((Nat.le_trans ((Nat.le_trans ((Nat.le_trans ((Nat.le_trans (hm95.out) hu161.out.size)) hz169.out)) hu205.out.size)) (Nat.le_of_eq hs207.out.size.symm))) hu217.out.size)) (Nat.le_of_eq hs219.out.size.symm))) hu226.out.size)
          have hm230 := Aside0.mk (((((hu168.out.trans hu205.out).sto (Nat.le_trans (hm189.out) lbb203.out) hs207.out).trans hu217.out).sto (Nat.le_trans (hm189.out) lbb203.out) hs219.out).trans hu226.out)
          have hm231 := Aside0.mk (Nat.le_trans ((Nat.le_trans ((Nat.le_trans ((Nat.le_trans ((Nat.le_trans (hm189.out) hu205.out.size)) (Nat.le_of_eq hs207.out.size.symm))) hu217.out.size)) (Nat.le_of_eq hs219.out.size.symm))) hu226.out.size)
          have hm232 := Aside0.mk (Nat.le_trans ((Nat.le_trans ((Nat.le_trans ((Nat.le_trans ((Nat.le_trans ((Nat.le_trans (Nat.le_refl _) hz169.out)) hu205.out.size)) (Nat.le_of_eq hs207.out.size.symm))) hu217.out.size)) (Nat.le_of_eq hs219.out.size.symm))) hu226.out.size)
          have h233 := (h27.up (((((((hu33.out.trans hu45.out).trans hu168.out).trans hu205.out).sto (Nat.le_trans ((Nat.le_trans ((Nat.le_trans ((Nat.le_trans ((Nat.le_trans ((Nat.le_trans ((Nat.le_trans (hu33.out.size) hu45.out.size)) hu53.out.size)) hu66.out.size)) hz77.out)) hu161.out.size)) hz169.out)) lbb203.out) hs207.out).trans hu217.out).sto (Nat.le_trans ((Nat.le_trans ((Nat.le_trans ((Nat.le_trans ((Nat.le_trans ((Nat.le_trans ((Nat.le_trans (hu33.out.size) hu45.out.size)) hu53.out.size)) hu66.out.size)) hz77.out)) hu161.out.size)) hz169.out)) lbb203.out) hs219.out).trans hu226.out))
          have h234 := (h28.up (((((((hu33.out.trans hu45.out).trans hu168.out).trans hu205.out).sto (Nat.le_trans ((Nat.le_trans ((Nat.le_trans ((Nat.le_trans ((Nat.le_trans ((Nat.le_trans ((Nat.le_trans (hu33.out.size) hu45.out.size)) hu53.out.size)) hu66.out.size)) hz77.out)) hu161.out.size)) hz169.out)) lbb203.out) hs207.out).trans hu217.out).sto (Nat.le_trans ((Nat.le_trans ((Nat.le_trans ((Nat.le_trans ((Nat.le_trans ((Nat.le_trans ((Nat.le_trans (hu33.out.size) hu45.out.size)) hu53.out.size)) hu66.out.size)) hz77.out)) hu161.out.size)) hz169.out)) lbb203.out) hs219.out).trans hu226.out))
          have h235 := (h36.up ((((((hu45.out.trans hu168.out).trans hu205.out).sto (Nat.le_trans ((Nat.le_trans ((Nat.le_trans ((Nat.le_trans ((Nat.le_trans ((Nat.le_trans (hu45.out.size) hu53.out.size)) hu66.out.size)) hz77.out)) hu161.out.size)) hz169.out)) lbb203.out) hs207.out).trans hu217.out).sto (Nat.le_trans ((Nat.le_trans ((Nat.le_trans ((Nat.le_trans ((Nat.le_trans ((Nat.le_trans (hu45.out.size) hu53.out.size)) hu66.out.size)) hz77.out)) hu161.out.size)) hz169.out)) lbb203.out) hs219.out).trans hu226.out))
          have h236 := (h190.up ((((hu205.out.sto (Nat.le_trans (Nat.le_refl _) lbb203.out) hs207.out).trans hu217.out).sto (Nat.le_trans (Nat.le_refl _) lbb203.out) hs219.out).trans hu226.out))
          by_cases c227 : (t222 == a5_0 && t223 == a5_1) = true
          ·
           rw [if_pos c227] at H
           replace H := Option.bind_eq_some_iff.mp H
           obtain ⟨t237, A240, H⟩ := H
           replace A240 := Aside0.mk A240
           try dsimp only at H
           have HL243 := Aside0.mk H
           clear H
           try simp only [c227, Bool.not_true, Bool.not_false]
           refine wp_cond_true rfl ?_
           refine wp_region_lit ?_
           refine wpList_plain rfl (fun Ko hKo => ?_)
           go_simp
           refine hKo _ _ ?_
           clear hKo Ko
           try simp only [Act.put, nm1, nm2, nm3, i64_w]
           have cl0 := (hb220.up hu226.out).cell (o := 0) rfl
           have cl1 := (hb220.up hu226.out).cell (o := 1) rfl
           have cl2 := (hb220.up hu226.out).cell (o := 2) rfl
           have cl3 := (hb220.up hu226.out).cell (o := 3) rfl
           have cl4 := (hb220.up hu226.out).cell (o := 4) rfl
           have cl5 := (hb220.up hu226.out).cell (o := 5) rfl
           refine wpList_plain rfl (fun Ko hKo => ?_)
           go_simp
           refine hKo _ _ ?_
           clear hKo Ko
           clear cl0 cl1 cl2 cl3 cl4 cl5
           try simp only [Act.put, nm1, nm2, nm3, i64_w]
           refine step_call (wanted_none rfl) (by first | (go_simp; done) | (go_simp; rfl)) (spec_l07Put.calls K P165 q166 x164 t193 t194 t195 t196 t213 t214 t237 w225 ((h172.up ((((hu205.out.sto (Nat.le_trans (Nat.le_refl _) lbb203.out) hs207.out).trans hu217.out).sto (Nat.le_trans (Nat.le_refl _) lbb203.out) hs219.out).trans hu226.out)).rd) (Own.cap (h172.up ((((hu205.out.sto (Nat.le_trans (Nat.le_refl _) lbb203.out) hs207.out).trans hu217.out).sto (Nat.le_trans (Nat.le_refl _) lbb203.out) hs219.out).trans hu226.out))) A240.out) ?_
           rintro e w241 ⟨P238, q239, rfl, ht237, hu⟩
           have hu242 := Aside0.mk hu
           clear hu
           refine ⟨_, rfl, ?_⟩
           simp only [Act.put, nm1, nm2, nm3, i64_w]
           refine wpList_plain rfl (fun Ko hKo => ?_)
           go_simp
           refine hKo _ _ ?_
           clear hKo Ko
           try simp only [Act.put, nm1, nm2, nm3, i64_w]
           refine wpList_nil ?_
           (try simp only [Exit.then, Exit.inBlock, ↓reduceIte, Nat.reduceEqDiff])
           refine hK191 _ _ ?_
           refine wp_region_lit ?_
           refine wpList_plain rfl (fun Ko hKo => ?_)
           go_simp
           refine hKo _ _ ?_
           clear hKo Ko
           try simp only [Act.put, nm1, nm2, nm3, i64_w]
           refine wpList_plain rfl (fun Ko hKo => ?_)
           go_simp
           refine hKo _ _ ?_
           clear hKo Ko
           try simp only [Act.put, nm1, nm2, nm3, i64_w]
           refine wpList_plain rfl (fun Ko hKo => ?_)
           go_simp
           refine hKo _ _ ?_
           clear hKo Ko
           try simp only [Act.put, nm1, nm2, nm3, i64_w]
           refine wpList_nil ?_
           (try simp only [Exit.then, Exit.inBlock, ↓reduceIte, Nat.reduceEqDiff])
           refine hK185 _ _ ?_
           go_roundg k181
           case measure => exact Nat.lt_succ_self _
           case rel => exact ⟨wrap64 (x163 + 1), t237, P238, q239, (by first | rfl | simp), (by first | rfl | simp), HL243, ⟨by have := hk88.out; have := hk182.out; omega⟩, ⟨(hm230.out.trans hu242.out)⟩, ⟨(Nat.le_trans (hm232.out) hu242.out.size)⟩, (h171.up (((((hu205.out.sto (Nat.le_trans (Nat.le_refl _) lbb203.out) hs207.out).trans hu217.out).sto (Nat.le_trans (Nat.le_refl _) lbb203.out) hs219.out).trans hu226.out).trans hu242.out)), (ht237.lower (hm231.out)), (h173.up (((((hu205.out.sto (Nat.le_trans (Nat.le_refl _) lbb203.out) hs207.out).trans hu217.out).sto (Nat.le_trans (Nat.le_refl _) lbb203.out) hs219.out).trans hu226.out).trans hu242.out)), ⟨(fun k hk => Ne.symm ((fun k hk => Nat.ne_of_lt (Nat.lt_of_lt_of_le (Nat.lt_of_lt_of_le ltb2.out ((Nat.le_trans ((Nat.le_trans ((Nat.le_trans ((Nat.le_trans ((Nat.le_trans ((Nat.le_trans ((Nat.le_trans ((Nat.le_trans ((Nat.le_trans ((Nat.le_trans ((Nat.le_trans ((Nat.le_trans ((Nat.le_trans ((Nat.le_trans ((Nat.le_trans ((Nat.le_trans (hu7.out.size) hu10.out.size)) hu13.out.size)) hu17.out.size)) hu21.out.size)) hu33.out.size)) hu45.out.size)) hu53.out.size)) hu66.out.size)) hz77.out)) hu161.out.size)) hz169.out)) hu205.out.size)) (Nat.le_of_eq hs207.out.size.symm))) hu217.out.size)) (Nat.le_of_eq hs219.out.size.symm))) hu226.out.size))) ((fun k hk => Nat.le_trans (Nat.le_refl _) (ht237.lt k hk).1) k hk))) k hk))⟩, ⟨(fun k hk => Ne.symm ((fun k hk => Nat.ne_of_lt (Nat.lt_of_lt_of_le (Nat.lt_of_lt_of_le ltb5.out ((Nat.le_trans ((Nat.le_trans ((Nat.le_trans ((Nat.le_trans ((Nat.le_trans ((Nat.le_trans ((Nat.le_trans ((Nat.le_trans ((Nat.le_trans ((Nat.le_trans ((Nat.le_trans ((Nat.le_trans ((Nat.le_trans ((Nat.le_trans ((Nat.le_trans (hu10.out.size) hu13.out.size)) hu17.out.size)) hu21.out.size)) hu33.out.size)) hu45.out.size)) hu53.out.size)) hu66.out.size)) hz77.out)) hu161.out.size)) hz169.out)) hu205.out.size)) (Nat.le_of_eq hs207.out.size.symm))) hu217.out.size)) (Nat.le_of_eq hs219.out.size.symm))) hu226.out.size))) ((fun k hk => Nat.le_trans (Nat.le_refl _) (ht237.lt k hk).1) k hk))) k hk))⟩, ⟨(fun k hk => Ne.symm ((fun k hk => Nat.ne_of_lt (Nat.lt_of_lt_of_le (Nat.lt_of_lt_of_le ltb8.out ((Nat.le_trans ((Nat.le_trans ((Nat.le_trans ((Nat.le_trans ((Nat.le_trans ((Nat.le_trans ((Nat.le_trans ((Nat.le_trans ((Nat.le_trans ((Nat.le_trans ((Nat.le_trans ((Nat.le_trans ((Nat.le_trans ((Nat.le_trans (hu13.out.size) hu17.out.size)) hu21.out.size)) hu33.out.size)) hu45.out.size)) hu53.out.size)) hu66.out.size)) hz77.out)) hu161.out.size)) hz169.out)) hu205.out.size)) (Nat.le_of_eq hs207.out.size.symm))) hu217.out.size)) (Nat.le_of_eq hs219.out.size.symm))) hu226.out.size))) ((fun k hk => Nat.le_trans (Nat.le_refl _) (ht237.lt k hk).1) k hk))) k hk))⟩, ⟨(fun k hk => Ne.symm ((fun k hk => Nat.ne_of_lt (Nat.lt_of_lt_of_le (Nat.lt_of_lt_of_le ltb11.out ((Nat.le_trans ((Nat.le_trans ((Nat.le_trans ((Nat.le_trans ((Nat.le_trans ((Nat.le_trans ((Nat.le_trans ((Nat.le_trans ((Nat.le_trans ((Nat.le_trans ((Nat.le_trans ((Nat.le_trans ((Nat.le_trans (hu17.out.size) hu21.out.size)) hu33.out.size)) hu45.out.size)) hu53.out.size)) hu66.out.size)) hz77.out)) hu161.out.size)) hz169.out)) hu205.out.size)) (Nat.le_of_eq hs207.out.size.symm))) hu217.out.size)) (Nat.le_of_eq hs219.out.size.symm))) hu226.out.size))) ((fun k hk => Nat.le_trans (Nat.le_refl _) (ht237.lt k hk).1) k hk))) k hk))⟩, ⟨(fun k hk => Ne.symm ((fun k hk => Nat.ne_of_lt (Nat.lt_of_lt_of_le (Nat.lt_of_lt_of_le ltb15.out ((Nat.le_trans ((Nat.le_trans ((Nat.le_trans ((Nat.le_trans ((Nat.le_trans ((Nat.le_trans ((Nat.le_trans ((Nat.le_trans ((Nat.le_trans ((Nat.le_trans ((Nat.le_trans ((Nat.le_trans (hu21.out.size) hu33.out.size)) hu45.out.size)) hu53.out.size)) hu66.out.size)) hz77.out)) hu161.out.size)) hz169.out)) hu205.out.size)) (Nat.le_of_eq hs207.out.size.symm))) hu217.out.size)) (Nat.le_of_eq hs219.out.size.symm))) hu226.out.size))) ((fun k hk => Nat.le_trans (Nat.le_refl _) (ht237.lt k hk).1) k hk))) k hk))⟩, ⟨(fun k l hk hl => Ne.symm ((fun k l hk hl => Nat.ne_of_lt (Nat.lt_of_lt_of_le ((fun k hk => Nat.lt_of_lt_of_le (ht61.lt k hk).2 ((Nat.le_trans ((Nat.le_trans ((Nat.le_trans ((Nat.le_trans ((Nat.le_trans ((Nat.le_trans ((Nat.le_trans ((Nat.le_trans (Nat.le_refl _) hz77.out)) hu161.out.size)) hz169.out)) hu205.out.size)) (Nat.le_of_eq hs207.out.size.symm))) hu217.out.size)) (Nat.le_of_eq hs219.out.size.symm))) hu226.out.size))) k hk) ((fun k hk => Nat.le_trans (Nat.le_refl _) (ht237.lt k hk).1) l hl))) l k hl hk))⟩, ⟨(fun k l hk hl => Ne.symm ((fun k l hk hl => Nat.ne_of_lt (Nat.lt_of_lt_of_le ((fun k hk => Nat.lt_of_lt_of_le (ht156.lt k hk).2 (hm232.out)) k hk) ((fun k hk => Nat.le_trans (Nat.le_refl _) (ht237.lt k hk).1) l hl))) l k hl hk))⟩⟩
          ·
           rw [if_neg c227] at H
           replace c227 := Bool.eq_false_iff.mpr c227
           have HL244 := Aside0.mk H
           clear H
           try simp only [c227, Bool.not_true, Bool.not_false]
           refine wp_cond_false rfl ?_
           refine wp_skip ?_
           (try simp only [Exit.then, Exit.inBlock, ↓reduceIte, Nat.reduceEqDiff])
           refine hK191 _ _ ?_
           refine wp_region_lit ?_
           refine wpList_plain rfl (fun Ko hKo => ?_)
           go_simp
           refine hKo _ _ ?_
           clear hKo Ko
           try simp only [Act.put, nm1, nm2, nm3, i64_w]
           refine wpList_plain rfl (fun Ko hKo => ?_)
           go_simp
           refine hKo _ _ ?_
           clear hKo Ko
           try simp only [Act.put, nm1, nm2, nm3, i64_w]
           refine wpList_plain rfl (fun Ko hKo => ?_)
           go_simp
           refine hKo _ _ ?_
           clear hKo Ko
           try simp only [Act.put, nm1, nm2, nm3, i64_w]
           refine wpList_nil ?_
           (try simp only [Exit.then, Exit.inBlock, ↓reduceIte, Nat.reduceEqDiff])
           refine hK185 _ _ ?_
           go_roundg k181
           case measure => exact Nat.lt_succ_self _
           case rel => exact ⟨wrap64 (x163 + 1), x164, P165, q166, (by first | rfl | simp), (by first | rfl | simp), HL244, ⟨by have := hk88.out; have := hk182.out; omega⟩, ⟨hm230.out⟩, ⟨hm232.out⟩, (h171.up ((((hu205.out.sto (Nat.le_trans (Nat.le_refl _) lbb203.out) hs207.out).trans hu217.out).sto (Nat.le_trans (Nat.le_refl _) lbb203.out) hs219.out).trans hu226.out)), (h172.up ((((hu205.out.sto (Nat.le_trans (Nat.le_refl _) lbb203.out) hs207.out).trans hu217.out).sto (Nat.le_trans (Nat.le_refl _) lbb203.out) hs219.out).trans hu226.out)), (h173.up ((((hu205.out.sto (Nat.le_trans (Nat.le_refl _) lbb203.out) hs207.out).trans hu217.out).sto (Nat.le_trans (Nat.le_refl _) lbb203.out) hs219.out).trans hu226.out)), ⟨hn174.out⟩, ⟨hn175.out⟩, ⟨hn176.out⟩, ⟨hn177.out⟩, ⟨hn178.out⟩, ⟨hn179.out⟩, ⟨hn180.out⟩⟩
       ·
        rw [if_neg c188] at H
        replace c188 := Bool.eq_false_iff.mpr c188
        simp only [Option.some.injEq, Prod.mk.injEq] at H
        obtain ⟨rfl, rfl⟩ := H
        try simp only [c188, Bool.not_true, Bool.not_false]
        refine wp_cond_false rfl ?_
        refine wp_exit ?_
        (try simp only [Exit.then, Exit.inBlock, ↓reduceIte, Nat.reduceEqDiff])
        refine hK154 _ _ ?_
        refine wp_region_lit ?_
        refine wpList_plain rfl (fun Ko hKo => ?_)
        go_simp
        refine hKo _ _ ?_
        clear hKo Ko
        try simp only [Act.put, nm1, nm2, nm3, i64_w]
        refine wpList_plain rfl (fun Ko hKo => ?_)
        go_simp
        refine hKo _ _ ?_
        clear hKo Ko
        try simp only [Act.put, nm1, nm2, nm3, i64_w]
        try simp only [show wrap64 3 = 3 from wlit rfl]
        refine wpList_plain rfl (fun Ko hKo => ?_)
        go_simp
        refine hKo _ _ ?_
        clear hKo Ko
        try simp only [Act.put, nm1, nm2, nm3, i64_w]
        refine wpList_nil ?_
        (try simp only [Exit.then, Exit.inBlock, ↓reduceIte, Nat.reduceEqDiff])
        refine hK151 _ _ ?_
        refine rounds_k (fun K245 hK245 => ?_)
        refine wp_seq_k (fun K246 hK246 => ?_)
        refine wp_seq_k (fun K247 hK247 => ?_)
        refine wp_region_lit ?_
        refine wpList_plain rfl (fun Ko hKo => ?_)
        go_simp
        refine hKo _ _ ?_
        clear hKo Ko
        try simp only [Act.put, nm1, nm2, nm3, i64_w]
        refine wpList_plain rfl (fun Ko hKo => ?_)
        go_simp
        refine hKo _ _ ?_
        clear hKo Ko
        try simp only [Act.put, nm1, nm2, nm3, i64_w]
        refine wpList_nil ?_
        (try simp only [Exit.then, Exit.inBlock, ↓reduceIte, Nat.reduceEqDiff])
        refine hK247 _ _ ?_
        refine wp_cond_false rfl ?_
        refine wp_exit ?_
        (try simp only [Exit.then, Exit.inBlock, ↓reduceIte, Nat.reduceEqDiff])
        refine hK54 _ _ ?_
        refine wp_seq_k (fun K248 hK248 => ?_)
        refine wp_region_lit ?_
        refine wpList_plain rfl (fun Ko hKo => ?_)
        go_simp
        refine hKo _ _ ?_
        clear hKo Ko
        try simp only [Act.put, nm1, nm2, nm3, i64_w]
        refine wpList_plain rfl (fun Ko hKo => ?_)
        go_simp
        refine hKo _ _ ?_
        clear hKo Ko
        try simp only [Act.put, nm1, nm2, nm3, i64_w]
        refine wpList_plain rfl (fun Ko hKo => ?_)
        go_simp
        refine hKo _ _ ?_
        clear hKo Ko
        try simp only [Act.put, nm1, nm2, nm3, i64_w]
        refine wpList_nil ?_
        (try simp only [Exit.then, Exit.inBlock, ↓reduceIte, Nat.reduceEqDiff])
        refine hK248 _ _ ?_
        refine wp_ret ?_
        (try simp only [Exit.then, Exit.inBlock, ↓reduceIte, Nat.reduceEqDiff])
        refine hQf _ _ _ ?_
        exact bodyPost_ret (v := .tuple #[.slice P165 x164.length q166, .int .i64 0]) (by first | rfl | (simp [results, Try.results43, go_sem]; done) | (simp [results, Try.results43, go_sem]; rfl)) rfl ⟨P165, q166, rfl, (h172.lower ((Nat.le_trans ((Nat.le_trans (hm26.out) hu33.out.size)) hu45.out.size))), (((hm25.out.trans hu33.out).trans hu45.out).trans hu168.out)⟩
   ·
    rw [if_neg c46] at H
    replace c46 := Bool.eq_false_iff.mpr c46
    have c46n : (t30 != t42) = true := by rw [bne, c46]; rfl
    have c46p : ¬ t30 = t42 := fun e => by simp [e] at c46
    simp only [Option.some.injEq, Prod.mk.injEq] at H
    obtain ⟨rfl, rfl⟩ := H
    try simp only [c46, c46n, Bool.not_true, Bool.not_false]
    refine wp_cond_true rfl ?_
    refine wp_region_lit ?_
    refine wpList_plain rfl (fun Ko hKo => ?_)
    go_simp
    refine hKo _ _ ?_
    clear hKo Ko
    try simp only [Act.put, nm1, nm2, nm3, i64_w]
    refine wpList_nil ?_
    (try simp only [Exit.then, Exit.inBlock, ↓reduceIte, Nat.reduceEqDiff])
    refine hK22 _ _ ?_
    refine wp_seq_k (fun K249 hK249 => ?_)
    refine wp_seq_k (fun K250 hK250 => ?_)
    refine wp_region_lit ?_
    refine wpList_plain rfl (fun Ko hKo => ?_)
    go_simp
    refine hKo _ _ ?_
    clear hKo Ko
    try simp only [Act.put, nm1, nm2, nm3, i64_w]
    refine wpList_plain rfl (fun Ko hKo => ?_)
    go_simp
    refine hKo _ _ ?_
    clear hKo Ko
    try simp only [Act.put, nm1, nm2, nm3, i64_w]
    refine wpList_nil ?_
    (try simp only [Exit.then, Exit.inBlock, ↓reduceIte, Nat.reduceEqDiff])
    refine hK250 _ _ ?_
    refine wp_cond_true rfl ?_
    refine wp_seq_k (fun K251 hK251 => ?_)
    refine wp_region_lit ?_
    refine wpList_plain rfl (fun Ko hKo => ?_)
    go_simp
    refine hKo _ _ ?_
    clear hKo Ko
    try simp only [Act.put, nm1, nm2, nm3, i64_w]
    refine wpList_plain rfl (fun Ko hKo => ?_)
    go_simp
    refine hKo _ _ ?_
    clear hKo Ko
    try simp only [Act.put, nm1, nm2, nm3, i64_w]
    refine wpList_plain rfl (fun Ko hKo => ?_)
    go_simp
    refine hKo _ _ ?_
    clear hKo Ko
    try simp only [Act.put, nm1, nm2, nm3, i64_w]
    refine wpList_nil ?_
    (try simp only [Exit.then, Exit.inBlock, ↓reduceIte, Nat.reduceEqDiff])
    refine hK251 _ _ ?_
    refine wp_ret ?_
    have h253 : Own e6 30 w44 w44.heap.size (.slice none ([] : List (Int × Int × Int × Int × Int × Int)).length 0) [] := Own.nil
    (try simp only [Exit.then, Exit.inBlock, ↓reduceIte, Nat.reduceEqDiff])
    refine hQf _ _ _ ?_
    exact bodyPost_ret (v := .tuple #[.slice none 0 0, .int .i64 5]) (by first | rfl | (simp [results, Try.results43, go_sem]; done) | (simp [results, Try.results43, go_sem]; rfl)) rfl ⟨none, 0, rfl, (h253.lower ((Nat.le_trans ((Nat.le_trans (hm26.out) hu33.out.size)) hu45.out.size))), ((hm25.out.trans hu33.out).trans hu45.out)⟩
 ·
  rw [if_neg c24] at H
  replace c24 := Bool.eq_false_iff.mpr c24
  have c24n : (t18 != 0) = true := by rw [bne, c24]; rfl
  have c24p : ¬ t18 = 0 := fun e => by simp [e] at c24
  simp only [Option.some.injEq, Prod.mk.injEq] at H
  obtain ⟨rfl, rfl⟩ := H
  try simp only [c24, c24n, Bool.not_true, Bool.not_false]
  refine wp_cond_false rfl ?_
  refine wp_skip ?_
  (try simp only [Exit.then, Exit.inBlock, ↓reduceIte, Nat.reduceEqDiff])
  refine hK22 _ _ ?_
  refine wp_seq_k (fun K254 hK254 => ?_)
  refine wp_seq_k (fun K255 hK255 => ?_)
  refine wp_region_lit ?_
  refine wpList_plain rfl (fun Ko hKo => ?_)
  go_simp
  refine hKo _ _ ?_
  clear hKo Ko
  try simp only [Act.put, nm1, nm2, nm3, i64_w]
  refine wpList_plain rfl (fun Ko hKo => ?_)
  go_simp
  refine hKo _ _ ?_
  clear hKo Ko
  try simp only [Act.put, nm1, nm2, nm3, i64_w]
  refine wpList_nil ?_
  (try simp only [Exit.then, Exit.inBlock, ↓reduceIte, Nat.reduceEqDiff])
  refine hK255 _ _ ?_
  refine wp_cond_true rfl ?_
  refine wp_seq_k (fun K256 hK256 => ?_)
  refine wp_region_lit ?_
  refine wpList_plain rfl (fun Ko hKo => ?_)
  go_simp
  refine hKo _ _ ?_
  clear hKo Ko
  try simp only [Act.put, nm1, nm2, nm3, i64_w]
  refine wpList_plain rfl (fun Ko hKo => ?_)
  go_simp
  refine hKo _ _ ?_
  clear hKo Ko
  try simp only [Act.put, nm1, nm2, nm3, i64_w]
  refine wpList_plain rfl (fun Ko hKo => ?_)
  go_simp
  refine hKo _ _ ?_
  clear hKo Ko
  try simp only [Act.put, nm1, nm2, nm3, i64_w]
  refine wpList_nil ?_
  (try simp only [Exit.then, Exit.inBlock, ↓reduceIte, Nat.reduceEqDiff])
  refine hK256 _ _ ?_
  refine wp_ret ?_
  have h258 : Own e6 30 w20 w20.heap.size (.slice none ([] : List (Int × Int × Int × Int × Int × Int)).length 0) [] := Own.nil
  (try simp only [Exit.then, Exit.inBlock, ↓reduceIte, Nat.reduceEqDiff])
  refine hQf _ _ _ ?_
  exact bodyPost_ret (v := .tuple #[.slice none 0 0, .int .i64 t18]) (by first | rfl | (simp [results, Try.results43, go_sem]; done) | (simp [results, Try.results43, go_sem]; rfl)) rfl ⟨none, 0, rfl, (h258.lower (hm26.out)), hm25.out⟩

end Go.Proofs.Ytbibgeoohpgaeaa
