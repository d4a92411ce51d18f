/- The walks: each of these functions of the program computes what its plain function says: spec_l07All, spec_l01Minus, spec_l07About, spec_TurnsAbout, impl_IsField, impl_isColour, impl_isNumber, impl_areNumbers, impl_isPoint, impl_TurnsAbout_1, impl_asked__impl_TurnsAbout_1, impl_rest, impl_product, impl_allPoints, impl_less. -/
import Derived.Test.YtbibgeoohpgaeaaProg
import Derived.Test.YtbibgeoohpgaeaaD1
import Derived.WalkKit
import Derived.KernelRfl
import Derived.BigQuiet
import Derived.Deep.LoopGhost
import Derived.Laws.StructEq
import Derived.Test.YtbibgeoohpgaeaaWTurnA1
namespace Go.Proofs.Ytbibgeoohpgaeaa
open Go Go.RowKit
attribute [local go_sem] Oper.quiet Oper.quietAt Oper.quietUpon
attribute [local irreducible] wpList
set_option linter.unusedVariables false
set_option linter.unusedSimpArgs false

set_option maxHeartbeats 40000000 in
set_option maxRecDepth 100000 in
theorem spec_l07All.calls (K : Nat) (a0 : Int) (a1 : Int) (a2 : Int) (r0 : List (Int × Int × Int × Int × Int × Int)) (w : World)  (h : spec_l07All.f K a0 a1 a2 = some (r0)) :
    Calls Try.prog 74 #[.int .i64 a0, .int .i64 a1, .int .i64 a2] w fun e w' => ∃ (Ar0 : Option Addr) (cr0 : Nat), e = .returned (.slice Ar0 r0.length cr0) ∧ Own e6 30 w' w.heap.size (.slice Ar0 r0.length cr0) r0 ∧ Up w w' := by
 have H : ((spec_l07All.l0 K a0 a1 a2 K 0 ([] : List (Int × Int × Int × Int × Int × Int))) : Option (List (Int × Int × Int × Int × Int × Int))) = some (r0) := h
 clear h
 go_enter Try.func74, Try.ntmps74
 refine wp_hide (fun Qf hQf => ?_)
 refine wp_seq_k (fun K1 hK1 => ?_)
 refine wp_region_lit ?_
 refine wpList_plain rfl (fun Ko hKo => ?_)
 go_simp
 refine hKo _ _ ?_
 clear hKo Ko
 try simp only [Act.put, nm1, nm2, nm3, i64_w]
 refine wpList_nil ?_
 (try simp only [Exit.then, Exit.inBlock, ↓reduceIte, Nat.reduceEqDiff])
 refine hK1 _ _ ?_
 refine wp_seq_k (fun K2 hK2 => ?_)
 refine wp_region_lit ?_
 refine step_new (cs := []) (T := 30) (f := fun b => .slice (some ⟨b, 0, none⟩) 0 0) rfl (by first | (go_simp; done) | (go_simp; rfl)) ?_
 intro b3 w4 hu lb hb3
 simp only [Act.put, nm1, nm2, nm3, i64_w]
 have lbb3 := Aside0.mk lb
 have ltb3 := Aside0.mk hb3.lt
 clear lb
 have hu5 := Aside0.mk hu
 clear hu
 refine wpList_plain rfl (fun Ko hKo => ?_)
 go_simp
 refine hKo _ _ ?_
 clear hKo Ko
 try simp only [Act.put, nm1, nm2, nm3, i64_w]
 refine wpList_nil ?_
 (try simp only [Exit.then, Exit.inBlock, ↓reduceIte, Nat.reduceEqDiff])
 refine hK2 _ _ ?_
 refine wp_seq_k (fun K6 hK6 => ?_)
 refine wp_seq_k (fun K7 hK7 => ?_)
 refine wp_region_lit ?_
 refine wpList_plain rfl (fun Ko hKo => ?_)
 go_simp
 refine hKo _ _ ?_
 clear hKo Ko
 try simp only [Act.put, nm1, nm2, nm3, i64_w]
 refine wpList_nil ?_
 (try simp only [Exit.then, Exit.inBlock, ↓reduceIte, Nat.reduceEqDiff])
 refine hK7 _ _ ?_
 refine wp_block ?_
 have h9 : Own e6 30 w4 w.heap.size (.slice (some ⟨b3, 0, none⟩) ([].length) 0) [] := Own.of_blk hb3 lbb3.out rfl (by simp) (by simp [Enc.flat, e6])
 have HL17 := Aside0.mk H
 clear H
 go_loopg [8, 7] K (fun kq v8 v7 w' => ∃ (x10 : Int) (x11 : List (Int × Int × Int × Int × Int × Int)) (P12 : Option Addr) (q13 : Nat), v8 = .int .i64 x10 ∧ v7 = .slice P12 x11.length q13 ∧ Aside0 (spec_l07All.l0 K a0 a1 a2 kq x10 x11 = some (r0)) ∧ Aside0 (kq ≤ K) ∧ Aside0 (Up w w') ∧ Aside0 (w4.heap.size ≤ w'.heap.size) ∧ Own e6 30 w' w.heap.size (.slice P12 x11.length q13) x11)
 case atStart => exact ⟨0, ([] : List (Int × Int × Int × Int × Int × Int)), some ⟨b3, 0, none⟩, 0, (by first | rfl | simp), (by first | rfl | simp), HL17, ⟨Nat.le_refl _⟩, ⟨hu5.out⟩, ⟨Nat.le_refl _⟩, h9⟩
 case round =>
  rename_i J22 K23 hJ22 hK23
  obtain ⟨x10, x11, P12, q13, rfl, rfl, HL21, hk20, hu15, hz16, h18⟩ := hrel
  obtain ⟨w14, rfl⟩ : ∃ wo : World, wo = wr := ⟨_, rfl⟩
  obtain ⟨k19, rfl⟩ | rfl : (∃ k, gk = k + 1) ∨ gk = 0 := by rcases gk with _ | k; exact .inr rfl; exact .inl ⟨k, rfl⟩
  case inr => exact absurd HL21.out (by simp [spec_l07All.l0])
  have H := HL21.out
  clear HL21
  rw [spec_l07All.l0] at H
  refine wp_seq_k (fun K24 hK24 => ?_)
  refine wp_seq_k (fun K25 hK25 => ?_)
  refine wp_region_lit ?_
  refine wpList_plain rfl (fun Ko hKo => ?_)
  go_simp
  refine hKo _ _ ?_
  clear hKo Ko
  try simp only [Act.put, nm1, nm2, nm3, i64_w]
  refine wpList_plain rfl (fun Ko hKo => ?_)
  go_simp
  refine hKo _ _ ?_
  clear hKo Ko
  try simp only [Act.put, nm1, nm2, nm3, i64_w]
  refine wpList_plain rfl (fun Ko hKo => ?_)
  go_simp
  refine hKo _ _ ?_
  clear hKo Ko
  try simp only [Act.put, nm1, nm2, nm3, i64_w]
  refine wpList_nil ?_
  (try simp only [Exit.then, Exit.inBlock, ↓reduceIte, Nat.reduceEqDiff])
  refine hK25 _ _ ?_
  by_cases c26 : (decide (x10 < a0)) = true
  ·
   rw [if_pos c26] at H
   try simp only [c26, Bool.not_true, Bool.not_false]
   refine wp_cond_true rfl ?_
   refine wp_skip ?_
   (try simp only [Exit.then, Exit.inBlock, ↓reduceIte, Nat.reduceEqDiff])
   refine hK24 _ _ ?_
   refine wp_seq_k (fun K27 hK27 => ?_)
   refine wp_block ?_
   refine wp_seq_k (fun K28 hK28 => ?_)
   refine wp_region_lit ?_
   refine wpList_plain rfl (fun Ko hKo => ?_)
   go_simp
   refine hKo _ _ ?_
   clear hKo Ko
   try simp only [Act.put, nm1, nm2, nm3, i64_w]
   refine wpList_nil ?_
   (try simp only [Exit.then, Exit.inBlock, ↓reduceIte, Nat.reduceEqDiff])
   refine hK28 _ _ ?_
   refine wp_block ?_
   have HL36 := Aside0.mk H
   clear H
   go_loopg [9, 7] k19 (fun kq v9 v7 w' => ∃ (x29 : Int) (x30 : List (Int × Int × Int × Int × Int × Int)) (P31 : Option Addr) (q32 : Nat), v9 = .int .i64 x29 ∧ v7 = .slice P31 x30.length q32 ∧ Aside0 (spec_l07All.l1 K a0 a1 a2 x10 kq x29 x30 = some (r0)) ∧ Aside0 (kq ≤ k19) ∧ Aside0 (Up w w') ∧ Aside0 (w14.heap.size ≤ w'.heap.size) ∧ Own e6 30 w' w.heap.size (.slice P31 x30.length q32) x30)
   case atStart => exact ⟨0, x11, P12, q13, (by first | rfl | simp), (by first | rfl | simp), HL36, ⟨Nat.le_refl _⟩, ⟨hu15.out⟩, ⟨Nat.le_refl _⟩, h18⟩
   case round =>
    rename_i J41 K42 hJ41 hK42
    obtain ⟨x29, x30, P31, q32, rfl, rfl, HL40, hk39, hu34, hz35, h37⟩ := hrel
    obtain ⟨w33, rfl⟩ : ∃ wo : World, wo = wr := ⟨_, rfl⟩
    obtain ⟨k38, rfl⟩ | rfl : (∃ k, gk = k + 1) ∨ gk = 0 := by rcases gk with _ | k; exact .inr rfl; exact .inl ⟨k, rfl⟩
    case inr => exact absurd HL40.out (by simp [spec_l07All.l1])
    have H := HL40.out
    clear HL40
    rw [spec_l07All.l1] at H
    refine wp_seq_k (fun K43 hK43 => ?_)
    refine wp_seq_k (fun K44 hK44 => ?_)
    refine wp_region_lit ?_
    refine wpList_plain rfl (fun Ko hKo => ?_)
    go_simp
    refine hKo _ _ ?_
    clear hKo Ko
    try simp only [Act.put, nm1, nm2, nm3, i64_w]
    refine wpList_plain rfl (fun Ko hKo => ?_)
    go_simp
    refine hKo _ _ ?_
    clear hKo Ko
    try simp only [Act.put, nm1, nm2, nm3, i64_w]
    refine wpList_plain rfl (fun Ko hKo => ?_)
    go_simp
    refine hKo _ _ ?_
    clear hKo Ko
    try simp only [Act.put, nm1, nm2, nm3, i64_w]
    refine wpList_nil ?_
    (try simp only [Exit.then, Exit.inBlock, ↓reduceIte, Nat.reduceEqDiff])
    refine hK44 _ _ ?_
    by_cases c45 : (decide (x29 < a0)) = true
    ·
     rw [if_pos c45] at H
     try simp only [c45, Bool.not_true, Bool.not_false]
     refine wp_cond_true rfl ?_
     refine wp_skip ?_
     (try simp only [Exit.then, Exit.inBlock, ↓reduceIte, Nat.reduceEqDiff])
     refine hK43 _ _ ?_
     refine wp_seq_k (fun K46 hK46 => ?_)
     refine wp_block ?_
     refine wp_seq_k (fun K47 hK47 => ?_)
     refine wp_region_lit ?_
     refine wpList_plain rfl (fun Ko hKo => ?_)
     go_simp
     refine hKo _ _ ?_
     clear hKo Ko
     try simp only [Act.put, nm1, nm2, nm3, i64_w]
     refine wpList_plain rfl (fun Ko hKo => ?_)
     go_simp
     refine hKo _ _ ?_
     clear hKo Ko
     try simp only [Act.put, nm1, nm2, nm3, i64_w]
     refine wpList_plain rfl (fun Ko hKo => ?_)
     go_simp
     refine hKo _ _ ?_
     clear hKo Ko
     try simp only [Act.put, nm1, nm2, nm3, i64_w]
     refine wpList_plain rfl (fun Ko hKo => ?_)
     go_simp
     refine hKo _ _ ?_
     clear hKo Ko
     try simp only [Act.put, nm1, nm2, nm3, i64_w]
     refine wpList_plain rfl (fun Ko hKo => ?_)
     go_simp
     refine hKo _ _ ?_
     clear hKo Ko
     try simp only [Act.put, nm1, nm2, nm3, i64_w]
     refine wpList_plain rfl (fun Ko hKo => ?_)
     go_simp
     refine hKo _ _ ?_
     clear hKo Ko
     try simp only [Act.put, nm1, nm2, nm3, i64_w]
     refine wpList_plain rfl (fun Ko hKo => ?_)
     go_simp
     refine hKo _ _ ?_
     clear hKo Ko
     try simp only [Act.put, nm1, nm2, nm3, i64_w]
     refine wpList_plain rfl (fun Ko hKo => ?_)
     go_simp
     refine hKo _ _ ?_
     clear hKo Ko
     try simp only [Act.put, nm1, nm2, nm3, i64_w]
     refine wpList_nil ?_
     (try simp only [Exit.then, Exit.inBlock, ↓reduceIte, Nat.reduceEqDiff])
     refine hK47 _ _ ?_
     refine wp_seq_k (fun K48 hK48 => ?_)
     refine wp_seq_k (fun K49 hK49 => ?_)
     refine wp_region_lit ?_
     refine wpList_plain rfl (fun Ko hKo => ?_)
     go_simp
     refine hKo _ _ ?_
     clear hKo Ko
     try simp only [Act.put, nm1, nm2, nm3, i64_w]
     refine wpList_nil ?_
     (try simp only [Exit.then, Exit.inBlock, ↓reduceIte, Nat.reduceEqDiff])
     refine hK49 _ _ ?_
     refine wp_block ?_
     refine wp_seq_k (fun K50 hK50 => ?_)
     refine wp_region_lit ?_
     refine wpList_plain rfl (fun Ko hKo => ?_)
     go_simp
     refine hKo _ _ ?_
     clear hKo Ko
     try simp only [Act.put, nm1, nm2, nm3, i64_w]
     refine wpList_plain rfl (fun Ko hKo => ?_)
     go_simp
     refine hKo _ _ ?_
     clear hKo Ko
     try simp only [Act.put, nm1, nm2, nm3, i64_w]
     refine wpList_nil ?_
     (try simp only [Exit.then, Exit.inBlock, ↓reduceIte, Nat.reduceEqDiff])
     refine hK50 _ _ ?_
     by_cases c51 : (a1 == 0) = true
     ·
      rw [if_pos c51] at H
      have c51n : (a1 != 0) = false := by rw [bne, c51]; rfl
      replace H := Option.bind_eq_some_iff.mp H
      obtain ⟨t53, A54, H⟩ := H
      replace A54 := Aside0.mk A54
      try dsimp only at H
      replace H := Option.bind_eq_some_iff.mp H
      obtain ⟨t57, A58, H⟩ := H
      replace A58 := Aside0.mk A58
      try dsimp only at H
      replace H := Option.bind_eq_some_iff.mp H
      obtain ⟨t68, A69, H⟩ := H
      replace A69 := Aside0.mk A69
      try dsimp only at H
      try simp only [c51, c51n, Bool.not_true, Bool.not_false]
      refine wp_cond_true rfl ?_
      refine wp_region_lit ?_
      refine wpList_plain rfl (fun Ko hKo => ?_)
      go_simp
      refine hKo _ _ ?_
      clear hKo Ko
      try simp only [Act.put, nm1, nm2, nm3, i64_w]
      refine wpList_plain rfl (fun Ko hKo => ?_)
      go_simp
      refine hKo _ _ ?_
      clear hKo Ko
      try simp only [Act.put, nm1, nm2, nm3, i64_w]
      refine wpList_plain rfl (fun Ko hKo => ?_)
      go_simp
      refine hKo _ _ ?_
      clear hKo Ko
      try simp only [Act.put, nm1, nm2, nm3, i64_w]
      refine wpList_plain rfl (fun Ko hKo => ?_)
      go_simp
      refine hKo _ _ ?_
      clear hKo Ko
      try simp only [Act.put, nm1, nm2, nm3, i64_w]
      refine wpList_plain rfl (fun Ko hKo => ?_)
      go_simp
      refine hKo _ _ ?_
      clear hKo Ko
      try simp only [Act.put, nm1, nm2, nm3, i64_w]
      refine wpList_nil ?_
      (try simp only [Exit.then, Exit.inBlock, ↓reduceIte, Nat.reduceEqDiff])
      refine hK48 _ _ ?_
      refine wp_seq_k (fun K52 hK52 => ?_)
      refine wp_region_lit ?_
      refine wpList_plain rfl (fun Ko hKo => ?_)
      go_simp
      refine hKo _ _ ?_
      clear hKo Ko
      try simp only [Act.put, nm1, nm2, nm3, i64_w]
      refine wpList_plain rfl (fun Ko hKo => ?_)
      go_simp
      refine hKo _ _ ?_
      clear hKo Ko
      try simp only [Act.put, nm1, nm2, nm3, i64_w]
      refine wpList_plain rfl (fun Ko hKo => ?_)
      go_simp
      refine hKo _ _ ?_
      clear hKo Ko
      try simp only [Act.put, nm1, nm2, nm3, i64_w]
      refine step_call (wanted_none rfl) (by first | (go_simp; done) | (go_simp; rfl)) (spec_l01Mod.calls K (wrap64 ((wrap64 (-a2)) * x29)) a0 t53 w33  A54.out) ?_
      rintro e w55 ⟨rfl, hu⟩
      have hu56 := Aside0.mk hu
      clear hu
      refine ⟨_, rfl, ?_⟩
      simp only [Act.put, nm1, nm2, nm3, i64_w]
      refine wpList_plain rfl (fun Ko hKo => ?_)
      go_simp
      refine hKo _ _ ?_
      clear hKo Ko
      try simp only [Act.put, nm1, nm2, nm3, i64_w]
      refine wpList_plain rfl (fun Ko hKo => ?_)
      go_simp
      refine hKo _ _ ?_
      clear hKo Ko
      try simp only [Act.put, nm1, nm2, nm3, i64_w]
      refine wpList_plain rfl (fun Ko hKo => ?_)
      go_simp
      refine hKo _ _ ?_
      clear hKo Ko
      try simp only [Act.put, nm1, nm2, nm3, i64_w]
      refine step_call (wanted_none rfl) (by first | (go_simp; done) | (go_simp; rfl)) (spec_l01Mod.calls K (wrap64 (a2 * x10)) a0 t57 w55  A58.out) ?_
      rintro e w59 ⟨rfl, hu⟩
      have hu60 := Aside0.mk hu
      clear hu
      refine ⟨_, rfl, ?_⟩
      simp only [Act.put, nm1, nm2, nm3, i64_w]
      refine wpList_plain rfl (fun Ko hKo => ?_)
      go_simp
      refine hKo _ _ ?_
      clear hKo Ko
      try simp only [Act.put, nm1, nm2, nm3, i64_w]
      refine wpList_plain rfl (fun Ko hKo => ?_)
      go_simp
      refine hKo _ _ ?_
      clear hKo Ko
      try simp only [Act.put, nm1, nm2, nm3, i64_w]
      refine step_new (cs := [.int .i64 0, .int .i64 0, .int .i64 0, .int .i64 0, .int .i64 0, .int .i64 0]) (T := 30) (f := fun b => .pointer (some ⟨b, 0, none⟩)) rfl (by first | (go_simp; done) | (go_simp; rfl)) ?_
      intro b61 w62 hu lb hb61
      simp only [Act.put, nm1, nm2, nm3, i64_w]
      have lbb61 := Aside0.mk lb
      have ltb61 := Aside0.mk hb61.lt
      clear lb
      have hu63 := Aside0.mk hu
      clear hu
      have hB0 := hb61
      have cl0 := hB0.cell (o := 0) rfl
      have fr0 := hB0.free 0
      have cl1 := hB0.cell (o := 1) rfl
      have fr1 := hB0.free 1
      have cl2 := hB0.cell (o := 2) rfl
      have fr2 := hB0.free 2
      have cl3 := hB0.cell (o := 3) rfl
      have fr3 := hB0.free 3
      have cl4 := hB0.cell (o := 4) rfl
      have fr4 := hB0.free 4
      have cl5 := hB0.cell (o := 5) rfl
      have fr5 := hB0.free 5
      refine step_store (b := b61) (cs' := [.int .i64 x10, .int .i64 t53, .int .i64 x29, .int .i64 t57, .int .i64 0, .int .i64 0]) (T := 30) (W' := ((((((w62.setCell ⟨b61, 0, none⟩ (.int .i64 x10)).setCell ⟨b61, 1, none⟩ (.int .i64 t53)).setCell ⟨b61, 2, none⟩ (.int .i64 x29)).setCell ⟨b61, 3, none⟩ (.int .i64 t57)).setCell ⟨b61, 4, none⟩ (.int .i64 0)).setCell ⟨b61, 5, none⟩ (.int .i64 0))) rfl rfl (by first | (go_simp; done) | (go_simp; rfl)) (((((((Sto.refl _ _).setCell 0 _).setCell 1 _).setCell 2 _).setCell 3 _).setCell 4 _).setCell 5 _) (((((((hB0).setCell 0 _).setCell 1 _).setCell 2 _).setCell 3 _).setCell 4 _).setCell 5 _) ?_
      clear hB0 cl0 fr0 cl1 fr1 cl2 fr2 cl3 fr3 cl4 fr4 cl5 fr5
      intro w64 hs hb66
      have hs65 := Aside0.mk hs
      clear hs
      refine wpList_nil ?_
      (try simp only [Exit.then, Exit.inBlock, ↓reduceIte, Nat.reduceEqDiff])
      refine hK52 _ _ ?_
      refine wp_seq_k (fun K67 hK67 => ?_)
      refine wp_region_lit ?_
      refine wpList_plain rfl (fun Ko hKo => ?_)
      go_simp
      refine hKo _ _ ?_
      clear hKo Ko
      try simp only [Act.put, nm1, nm2, nm3, i64_w]
      refine wpList_plain rfl (fun Ko hKo => ?_)
      go_simp
      refine hKo _ _ ?_
      clear hKo Ko
      try simp only [Act.put, nm1, nm2, nm3, i64_w]
      have cl0 := hb66.cell (o := 0) rfl
      have cl1 := hb66.cell (o := 1) rfl
      have cl2 := hb66.cell (o := 2) rfl
      have cl3 := hb66.cell (o := 3) rfl
      have cl4 := hb66.cell (o := 4) rfl
      have cl5 := hb66.cell (o := 5) rfl
      refine wpList_plain rfl (fun Ko hKo => ?_)
      go_simp
      refine hKo _ _ ?_
      clear hKo Ko
      clear cl0 cl1 cl2 cl3 cl4 cl5
      try simp only [Act.put, nm1, nm2, nm3, i64_w]
      refine step_call (wanted_none rfl) (by first | (go_simp; done) | (go_simp; rfl)) (spec_l07Good.calls K a0 a1 x10 t53 x29 t57 0 0 t68 w64  A69.out) ?_
      rintro e w70 ⟨rfl, hu⟩
      have hu71 := Aside0.mk hu
      clear hu
      refine ⟨_, rfl, ?_⟩
      simp only [Act.put, nm1, nm2, nm3, i64_w]
      refine wpList_plain rfl (fun Ko hKo => ?_)
      go_simp
      refine hKo _ _ ?_
      clear hKo Ko
      try simp only [Act.put, nm1, nm2, nm3, i64_w]
      have hm73 := Aside0.mk (((((hu34.out.trans hu56.out).trans hu60.out).trans hu63.out).sto (Nat.le_trans ((Nat.le_trans ((Nat.le_trans ((Nat.le_trans ((Nat.le_trans (hu5.out.size) hz16.out)) hz35.out)) hu56.out.size)) hu60.out.size)) lbb61.out) hs65.out).trans hu71.out)
      have hm74 := Aside0.mk (Nat.le_trans ((Nat.le_trans ((Nat.le_trans ((Nat.le_trans ((Nat.le_trans ((Nat.le_trans ((Nat.le_trans (hu5.out.size) hz16.out)) hz35.out)) hu56.out.size)) hu60.out.size)) hu63.out.size)) (Nat.le_of_eq hs65.out.size.symm))) hu71.out.size)
      have hm75 := Aside0.mk (Nat.le_trans ((Nat.le_trans ((Nat.le_trans ((Nat.le_trans ((Nat.le_trans ((Nat.le_trans (Nat.le_refl _) hz35.out)) hu56.out.size)) hu60.out.size)) hu63.out.size)) (Nat.le_of_eq hs65.out.size.symm))) hu71.out.size)
      by_cases c72 : (t68) = true
      ·
       rw [if_pos c72] at H
       subst c72
       replace H := Option.bind_eq_some_iff.mp H
       obtain ⟨t76, A77, H⟩ := H
       replace A77 := Aside0.mk A77
       try dsimp only at H
       replace H := Option.bind_eq_some_iff.mp H
       obtain ⟨t80, A81, H⟩ := H
       replace A81 := Aside0.mk A81
       try dsimp only at H
       refine wpList_step (fun Ko hKo => ?_)
       go_simp
       refine hKo _ _ ?_
       clear hKo Ko
       try simp only [Act.put, nm1, nm2, nm3, i64_w]
       have cl0 := (hb66.up hu71.out).cell (o := 0) rfl
       have cl1 := (hb66.up hu71.out).cell (o := 1) rfl
       have cl2 := (hb66.up hu71.out).cell (o := 2) rfl
       have cl3 := (hb66.up hu71.out).cell (o := 3) rfl
       have cl4 := (hb66.up hu71.out).cell (o := 4) rfl
       have cl5 := (hb66.up hu71.out).cell (o := 5) rfl
       refine wpList_step (fun Ko hKo => ?_)
       go_simp
       refine hKo _ _ ?_
       clear hKo Ko
       clear cl0 cl1 cl2 cl3 cl4 cl5
       try simp only [Act.put, nm1, nm2, nm3, i64_w]
       refine step_call rfl (by first | (go_simp; done) | (go_simp; rfl)) (spec_l07Sign.calls K a0 x10 t53 x29 t57 0 0 t76 w70  A77.out) ?_
       rintro e w78 ⟨rfl, hu⟩
       have hu79 := Aside0.mk hu
       clear hu
       refine ⟨_, rfl, ?_⟩
       simp only [Act.put, nm1, nm2, nm3, i64_w]
       refine wpList_step (fun Ko hKo => ?_)
       go_simp
       refine hKo _ _ ?_
       clear hKo Ko
       try simp only [Act.put, nm1, nm2, nm3, i64_w]
       refine wpList_step (fun Ko hKo => ?_)
       go_simp
       refine hKo _ _ ?_
       clear hKo Ko
       try simp only [Act.put, nm1, nm2, nm3, i64_w]
       refine step_call rfl (by first | (go_simp; done) | (go_simp; rfl)) (spec_l01Mod.calls K a2 a0 t80 w78  A81.out) ?_
       rintro e w82 ⟨rfl, hu⟩
       have hu83 := Aside0.mk hu
       clear hu
       refine ⟨_, rfl, ?_⟩
       simp only [Act.put, nm1, nm2, nm3, i64_w]
       refine wpList_step (fun Ko hKo => ?_)
       go_simp
       refine hKo _ _ ?_
       clear hKo Ko
       try simp only [Act.put, nm1, nm2, nm3, i64_w]
       refine wpList_plain rfl (fun Ko hKo => ?_)
       go_simp
       refine hKo _ _ ?_
       clear hKo Ko
       try simp only [Act.put, nm1, nm2, nm3, i64_w]
       refine wpList_nil ?_
       (try simp only [Exit.then, Exit.inBlock, ↓reduceIte, Nat.reduceEqDiff])
       refine hK67 _ _ ?_
       by_cases c84 : (t76 == t80) = true
       ·
        rw [if_pos c84] at H
        have c84n : (t76 != t80) = false := by rw [bne, c84]; rfl
        replace H := Option.bind_eq_some_iff.mp H
        obtain ⟨t85, A88, H⟩ := H
        replace A88 := Aside0.mk A88
        try dsimp only at H
        have HL91 := Aside0.mk H
        clear H
        try simp only [c84, c84n, Bool.not_true, Bool.not_false]
        refine wp_cond_true rfl ?_
        refine wp_region_lit ?_
        refine wpList_plain rfl (fun Ko hKo => ?_)
        go_simp
        refine hKo _ _ ?_
        clear hKo Ko
        try simp only [Act.put, nm1, nm2, nm3, i64_w]
        have cl0 := (hb66.up ((hu71.out.trans hu79.out).trans hu83.out)).cell (o := 0) rfl
        have cl1 := (hb66.up ((hu71.out.trans hu79.out).trans hu83.out)).cell (o := 1) rfl
        have cl2 := (hb66.up ((hu71.out.trans hu79.out).trans hu83.out)).cell (o := 2) rfl
        have cl3 := (hb66.up ((hu71.out.trans hu79.out).trans hu83.out)).cell (o := 3) rfl
        have cl4 := (hb66.up ((hu71.out.trans hu79.out).trans hu83.out)).cell (o := 4) rfl
        have cl5 := (hb66.up ((hu71.out.trans hu79.out).trans hu83.out)).cell (o := 5) rfl
        refine wpList_plain rfl (fun Ko hKo => ?_)
        go_simp
        refine hKo _ _ ?_
        clear hKo Ko
        clear cl0 cl1 cl2 cl3 cl4 cl5
        try simp only [Act.put, nm1, nm2, nm3, i64_w]
        refine step_call (wanted_none rfl) (by first | (go_simp; done) | (go_simp; rfl)) (spec_l07Put.calls K P31 q32 x30 x10 t53 x29 t57 0 0 t85 w82 ((h37.up ((((((hu56.out.trans hu60.out).trans hu63.out).sto (Nat.le_trans ((Nat.le_trans (hu56.out.size) hu60.out.size)) lbb61.out) hs65.out).trans hu71.out).trans hu79.out).trans hu83.out)).rd) (Own.cap (h37.up ((((((hu56.out.trans hu60.out).trans hu63.out).sto (Nat.le_trans ((Nat.le_trans (hu56.out.size) hu60.out.size)) lbb61.out) hs65.out).trans hu71.out).trans hu79.out).trans hu83.out))) A88.out) ?_
        rintro e w89 ⟨P86, q87, rfl, ht85, hu⟩
        have hu90 := Aside0.mk hu
        clear hu
        refine ⟨_, rfl, ?_⟩
        simp only [Act.put, nm1, nm2, nm3, i64_w]
        refine wpList_plain rfl (fun Ko hKo => ?_)
        go_simp
        refine hKo _ _ ?_
        clear hKo Ko
        try simp only [Act.put, nm1, nm2, nm3, i64_w]
        refine wpList_nil ?_
        (try simp only [Exit.then, Exit.inBlock, ↓reduceIte, Nat.reduceEqDiff])
        refine hK46 _ _ ?_
        refine wp_region_lit ?_
        refine wpList_plain rfl (fun Ko hKo => ?_)
        go_simp
        refine hKo _ _ ?_
        clear hKo Ko
        try simp only [Act.put, nm1, nm2, nm3, i64_w]
        refine wpList_plain rfl (fun Ko hKo => ?_)
        go_simp
        refine hKo _ _ ?_
        clear hKo Ko
        try simp only [Act.put, nm1, nm2, nm3, i64_w]
        refine wpList_plain rfl (fun Ko hKo => ?_)
        go_simp
        refine hKo _ _ ?_
        clear hKo Ko
        try simp only [Act.put, nm1, nm2, nm3, i64_w]
        refine wpList_nil ?_
        (try simp only [Exit.then, Exit.inBlock, ↓reduceIte, Nat.reduceEqDiff])
        refine hK42 _ _ ?_
        go_roundg k38
        case measure => exact Nat.lt_succ_self _
        case rel => exact ⟨wrap64 (x29 + 1), t85, P86, q87, (by first | rfl | simp), (by first | rfl | simp), HL91, ⟨by have := hk20.out; have := hk39.out; omega⟩, ⟨(((hm73.out.trans hu79.out).trans hu83.out).trans hu90.out)⟩, ⟨(Nat.le_trans ((Nat.le_trans ((Nat.le_trans (hm75.out) hu79.out.size)) hu83.out.size)) hu90.out.size)⟩, (ht85.lower ((Nat.le_trans ((Nat.le_trans (hm74.out) hu79.out.size)) hu83.out.size)))⟩
       ·
        rw [if_neg c84] at H
        replace c84 := Bool.eq_false_iff.mpr c84
        have c84n : (t76 != t80) = true := by rw [bne, c84]; rfl
        have c84p : ¬ t76 = t80 := fun e => by simp [e] at c84
        have HL92 := Aside0.mk H
        clear H
        try simp only [c84, c84n, Bool.not_true, Bool.not_false]
        refine wp_cond_false rfl ?_
        refine wp_skip ?_
        (try simp only [Exit.then, Exit.inBlock, ↓reduceIte, Nat.reduceEqDiff])
        refine hK46 _ _ ?_
        refine wp_region_lit ?_
        refine wpList_plain rfl (fun Ko hKo => ?_)
        go_simp
        refine hKo _ _ ?_
        clear hKo Ko
        try simp only [Act.put, nm1, nm2, nm3, i64_w]
        refine wpList_plain rfl (fun Ko hKo => ?_)
        go_simp
        refine hKo _ _ ?_
        clear hKo Ko
        try simp only [Act.put, nm1, nm2, nm3, i64_w]
        refine wpList_plain rfl (fun Ko hKo => ?_)
        go_simp
        refine hKo _ _ ?_
        clear hKo Ko
        try simp only [Act.put, nm1, nm2, nm3, i64_w]
        refine wpList_nil ?_
        (try simp only [Exit.then, Exit.inBlock, ↓reduceIte, Nat.reduceEqDiff])
        refine hK42 _ _ ?_
        go_roundg k38
        case measure => exact Nat.lt_succ_self _
        case rel => exact ⟨wrap64 (x29 + 1), x30, P31, q32, (by first | rfl | simp), (by first | rfl | simp), HL92, ⟨by have := hk20.out; have := hk39.out; omega⟩, ⟨((hm73.out.trans hu79.out).trans hu83.out)⟩, ⟨(Nat.le_trans ((Nat.le_trans (hm75.out) hu79.out.size)) hu83.out.size)⟩, (h37.up ((((((hu56.out.trans hu60.out).trans hu63.out).sto (Nat.le_trans ((Nat.le_trans (hu56.out.size) hu60.out.size)) lbb61.out) hs65.out).trans hu71.out).trans hu79.out).trans hu83.out))⟩
      ·
       rw [if_neg c72] at H
       replace c72 := Bool.eq_false_iff.mpr c72
       subst c72
       have HL93 := Aside0.mk H
       clear H
       refine step_no rfl ?_
       simp only [Act.put, nm1, nm2, nm3, i64_w]
       refine step_no rfl ?_
       simp only [Act.put, nm1, nm2, nm3, i64_w]
       refine step_no rfl ?_
       simp only [Act.put, nm1, nm2, nm3, i64_w]
       refine step_no rfl ?_
       simp only [Act.put, nm1, nm2, nm3, i64_w]
       refine step_no rfl ?_
       simp only [Act.put, nm1, nm2, nm3, i64_w]
       refine step_no rfl ?_
       simp only [Act.put, nm1, nm2, nm3, i64_w]
       refine step_no rfl ?_
       simp only [Act.put, nm1, nm2, nm3, i64_w]
       refine wpList_plain rfl (fun Ko hKo => ?_)
       go_simp
       refine hKo _ _ ?_
       clear hKo Ko
       try simp only [Act.put, nm1, nm2, nm3, i64_w]
       refine wpList_nil ?_
       (try simp only [Exit.then, Exit.inBlock, ↓reduceIte, Nat.reduceEqDiff])
       refine hK67 _ _ ?_
       refine wp_cond_false rfl ?_
       refine wp_skip ?_
       (try simp only [Exit.then, Exit.inBlock, ↓reduceIte, Nat.reduceEqDiff])
       refine hK46 _ _ ?_
       refine wp_region_lit ?_
       refine wpList_plain rfl (fun Ko hKo => ?_)
       go_simp
       refine hKo _ _ ?_
       clear hKo Ko
       try simp only [Act.put, nm1, nm2, nm3, i64_w]
       refine wpList_plain rfl (fun Ko hKo => ?_)
       go_simp
       refine hKo _ _ ?_
       clear hKo Ko
       try simp only [Act.put, nm1, nm2, nm3, i64_w]
       refine wpList_plain rfl (fun Ko hKo => ?_)
       go_simp
       refine hKo _ _ ?_
       clear hKo Ko
       try simp only [Act.put, nm1, nm2, nm3, i64_w]
       refine wpList_nil ?_
       (try simp only [Exit.then, Exit.inBlock, ↓reduceIte, Nat.reduceEqDiff])
       refine hK42 _ _ ?_
       go_roundg k38
       case measure => exact Nat.lt_succ_self _
       case rel => exact ⟨wrap64 (x29 + 1), x30, P31, q32, (by first | rfl | simp), (by first | rfl | simp), HL93, ⟨by have := hk20.out; have := hk39.out; omega⟩, ⟨hm73.out⟩, ⟨hm75.out⟩, (h37.up ((((hu56.out.trans hu60.out).trans hu63.out).sto (Nat.le_trans ((Nat.le_trans (hu56.out.size) hu60.out.size)) lbb61.out) hs65.out).trans hu71.out))⟩
     ·
      rw [if_neg c51] at H
      replace c51 := Bool.eq_false_iff.mpr c51
      have c51n : (a1 != 0) = true := by rw [bne, c51]; rfl
      have c51p : ¬ a1 = 0 := fun e => by simp [e] at c51
      try simp only [c51, c51n, Bool.not_true, Bool.not_false]
      refine wp_cond_false rfl ?_
      refine wp_seq_k (fun K94 hK94 => ?_)
      refine wp_region_lit ?_
      refine wpList_plain rfl (fun Ko hKo => ?_)
      go_simp
      refine hKo _ _ ?_
      clear hKo Ko
      try simp only [Act.put, nm1, nm2, nm3, i64_w]
      refine wpList_plain rfl (fun Ko hKo => ?_)
      go_simp
      refine hKo _ _ ?_
      clear hKo Ko
      try simp only [Act.put, nm1, nm2, nm3, i64_w]
      refine wpList_nil ?_
      (try simp only [Exit.then, Exit.inBlock, ↓reduceIte, Nat.reduceEqDiff])
      refine hK94 _ _ ?_
      by_cases c95 : (a1 == 2) = true
      ·
       rw [if_pos c95] at H
       have c95n : (a1 != 2) = false := by rw [bne, c95]; rfl
       try simp only [c95, c95n, Bool.not_true, Bool.not_false]
       refine wp_cond_true rfl ?_
       refine wp_seq_k (fun K96 hK96 => ?_)
       refine wp_region_lit ?_
       refine wpList_plain rfl (fun Ko hKo => ?_)
       go_simp
       refine hKo _ _ ?_
       clear hKo Ko
       try simp only [Act.put, nm1, nm2, nm3, i64_w]
       refine wpList_plain rfl (fun Ko hKo => ?_)
       go_simp
       refine hKo _ _ ?_
       clear hKo Ko
       try simp only [Act.put, nm1, nm2, nm3, i64_w]
       refine wpList_nil ?_
       (try simp only [Exit.then, Exit.inBlock, ↓reduceIte, Nat.reduceEqDiff])
       refine hK96 _ _ ?_
       refine wp_seq_k (fun K97 hK97 => ?_)
       refine wp_region_lit ?_
       refine wpList_plain rfl (fun Ko hKo => ?_)
       go_simp
       refine hKo _ _ ?_
       clear hKo Ko
       try simp only [Act.put, nm1, nm2, nm3, i64_w]
       refine wpList_plain rfl (fun Ko hKo => ?_)
       go_simp
       refine hKo _ _ ?_
       clear hKo Ko
       try simp only [Act.put, nm1, nm2, nm3, i64_w]
       refine wpList_nil ?_
       (try simp only [Exit.then, Exit.inBlock, ↓reduceIte, Nat.reduceEqDiff])
       refine hK97 _ _ ?_
       refine wp_seq_k (fun K98 hK98 => ?_)
       refine wp_seq_k (fun K99 hK99 => ?_)
       refine wp_region_lit ?_
       refine wpList_plain rfl (fun Ko hKo => ?_)
       go_simp
       refine hKo _ _ ?_
       clear hKo Ko
       try simp only [Act.put, nm1, nm2, nm3, i64_w]
       refine wpList_plain rfl (fun Ko hKo => ?_)
       go_simp
       refine hKo _ _ ?_
       clear hKo Ko
       try simp only [Act.put, nm1, nm2, nm3, i64_w]
       refine wpList_nil ?_
       (try simp only [Exit.then, Exit.inBlock, ↓reduceIte, Nat.reduceEqDiff])
       refine hK99 _ _ ?_
       by_cases c100 : (x10 == 0) = true
       ·
        rw [if_pos c100] at H
        have c100n : (x10 != 0) = false := by rw [bne, c100]; rfl
        try simp only [c100, c100n, Bool.not_true, Bool.not_false]
        refine wp_cond_false rfl ?_
        refine wp_skip ?_
        (try simp only [Exit.then, Exit.inBlock, ↓reduceIte, Nat.reduceEqDiff])
        refine hK98 _ _ ?_
        refine wp_seq_k (fun K101 hK101 => ?_)
        refine wp_region_lit ?_
        refine wpList_plain rfl (fun Ko hKo => ?_)
        go_simp
        refine hKo _ _ ?_
        clear hKo Ko
        try simp only [Act.put, nm1, nm2, nm3, i64_w]
        refine wpList_plain rfl (fun Ko hKo => ?_)
        go_simp
        refine hKo _ _ ?_
        clear hKo Ko
        try simp only [Act.put, nm1, nm2, nm3, i64_w]
        refine wpList_nil ?_
        (try simp only [Exit.then, Exit.inBlock, ↓reduceIte, Nat.reduceEqDiff])
        refine hK101 _ _ ?_
        by_cases c102 : (x29 == 0) = true
        ·
         rw [if_pos c102] at H
         have c102n : (x29 != 0) = false := by rw [bne, c102]; rfl
         replace H := Option.bind_eq_some_iff.mp H
         obtain ⟨t104, A105, H⟩ := H
         replace A105 := Aside0.mk A105
         try dsimp only at H
         replace H := Option.bind_eq_some_iff.mp H
         obtain ⟨t108, A109, H⟩ := H
         replace A109 := Aside0.mk A109
         try dsimp only at H
         replace H := Option.bind_eq_some_iff.mp H
         obtain ⟨t119, A120, H⟩ := H
         replace A120 := Aside0.mk A120
         try dsimp only at H
         try simp only [c102, c102n, Bool.not_true, Bool.not_false]
         refine wp_cond_false rfl ?_
         refine wp_skip ?_
         (try simp only [Exit.then, Exit.inBlock, ↓reduceIte, Nat.reduceEqDiff])
         refine hK48 _ _ ?_
         refine wp_seq_k (fun K103 hK103 => ?_)
         refine wp_region_lit ?_
         refine wpList_plain rfl (fun Ko hKo => ?_)
         go_simp
         refine hKo _ _ ?_
         clear hKo Ko
         try simp only [Act.put, nm1, nm2, nm3, i64_w]
         refine wpList_plain rfl (fun Ko hKo => ?_)
         go_simp
         refine hKo _ _ ?_
         clear hKo Ko
         try simp only [Act.put, nm1, nm2, nm3, i64_w]
         refine wpList_plain rfl (fun Ko hKo => ?_)
         go_simp
         refine hKo _ _ ?_
         clear hKo Ko
         try simp only [Act.put, nm1, nm2, nm3, i64_w]
         refine step_call (wanted_none rfl) (by first | (go_simp; done) | (go_simp; rfl)) (spec_l01Mod.calls K x29 a0 t104 w33  A105.out) ?_
         rintro e w106 ⟨rfl, hu⟩
         have hu107 := Aside0.mk hu
         clear hu
         refine ⟨_, rfl, ?_⟩
         simp only [Act.put, nm1, nm2, nm3, i64_w]
         refine wpList_plain rfl (fun Ko hKo => ?_)
         go_simp
         refine hKo _ _ ?_
         clear hKo Ko
         try simp only [Act.put, nm1, nm2, nm3, i64_w]
         refine wpList_plain rfl (fun Ko hKo => ?_)
         go_simp
         refine hKo _ _ ?_
         clear hKo Ko
         try simp only [Act.put, nm1, nm2, nm3, i64_w]
         refine wpList_plain rfl (fun Ko hKo => ?_)
         go_simp
         refine hKo _ _ ?_
         clear hKo Ko
         try simp only [Act.put, nm1, nm2, nm3, i64_w]
         refine step_call (wanted_none rfl) (by first | (go_simp; done) | (go_simp; rfl)) (spec_l01Mod.calls K x10 a0 t108 w106  A109.out) ?_
         rintro e w110 ⟨rfl, hu⟩
         have hu111 := Aside0.mk hu
         clear hu
         refine ⟨_, rfl, ?_⟩
         simp only [Act.put, nm1, nm2, nm3, i64_w]
         refine wpList_plain rfl (fun Ko hKo => ?_)
         go_simp
         refine hKo _ _ ?_
         clear hKo Ko
         try simp only [Act.put, nm1, nm2, nm3, i64_w]
         refine wpList_plain rfl (fun Ko hKo => ?_)
         go_simp
         refine hKo _ _ ?_
         clear hKo Ko
         try simp only [Act.put, nm1, nm2, nm3, i64_w]
         refine step_new (cs := [.int .i64 0, .int .i64 0, .int .i64 0, .int .i64 0, .int .i64 0, .int .i64 0]) (T := 30) (f := fun b => .pointer (some ⟨b, 0, none⟩)) rfl (by first | (go_simp; done) | (go_simp; rfl)) ?_
         intro b112 w113 hu lb hb112
         simp only [Act.put, nm1, nm2, nm3, i64_w]
         have lbb112 := Aside0.mk lb
         have ltb112 := Aside0.mk hb112.lt
         clear lb
         have hu114 := Aside0.mk hu
         clear hu
         have hB0 := hb112
         have cl0 := hB0.cell (o := 0) rfl
         have fr0 := hB0.free 0
         have cl1 := hB0.cell (o := 1) rfl
         have fr1 := hB0.free 1
         have cl2 := hB0.cell (o := 2) rfl
         have fr2 := hB0.free 2
         have cl3 := hB0.cell (o := 3) rfl
         have fr3 := hB0.free 3
         have cl4 := hB0.cell (o := 4) rfl
         have fr4 := hB0.free 4
         have cl5 := hB0.cell (o := 5) rfl
         have fr5 := hB0.free 5
         refine step_store (b := b112) (cs' := [.int .i64 x10, .int .i64 t104, .int .i64 x29, .int .i64 t108, .int .i64 0, .int .i64 0]) (T := 30) (W' := ((((((w113.setCell ⟨b112, 0, none⟩ (.int .i64 x10)).setCell ⟨b112, 1, none⟩ (.int .i64 t104)).setCell ⟨b112, 2, none⟩ (.int .i64 x29)).setCell ⟨b112, 3, none⟩ (.int .i64 t108)).setCell ⟨b112, 4, none⟩ (.int .i64 0)).setCell ⟨b112, 5, none⟩ (.int .i64 0))) rfl rfl (by first | (go_simp; done) | (go_simp; rfl)) (((((((Sto.refl _ _).setCell 0 _).setCell 1 _).setCell 2 _).setCell 3 _).setCell 4 _).setCell 5 _) (((((((hB0).setCell 0 _).setCell 1 _).setCell 2 _).setCell 3 _).setCell 4 _).setCell 5 _) ?_
         clear hB0 cl0 fr0 cl1 fr1 cl2 fr2 cl3 fr3 cl4 fr4 cl5 fr5
         intro w115 hs hb117
         have hs116 := Aside0.mk hs
         clear hs
         refine wpList_nil ?_
         (try simp only [Exit.then, Exit.inBlock, ↓reduceIte, Nat.reduceEqDiff])
         refine hK103 _ _ ?_
         refine wp_seq_k (fun K118 hK118 => ?_)
         refine wp_region_lit ?_
         refine wpList_plain rfl (fun Ko hKo => ?_)
         go_simp
         refine hKo _ _ ?_
         clear hKo Ko
         try simp only [Act.put, nm1, nm2, nm3, i64_w]
         refine wpList_plain rfl (fun Ko hKo => ?_)
         go_simp
         refine hKo _ _ ?_
         clear hKo Ko
         try simp only [Act.put, nm1, nm2, nm3, i64_w]
         have cl0 := hb117.cell (o := 0) rfl
         have cl1 := hb117.cell (o := 1) rfl
         have cl2 := hb117.cell (o := 2) rfl
         have cl3 := hb117.cell (o := 3) rfl
         have cl4 := hb117.cell (o := 4) rfl
         have cl5 := hb117.cell (o := 5) rfl
         refine wpList_plain rfl (fun Ko hKo => ?_)
         go_simp
         refine hKo _ _ ?_
         clear hKo Ko
         clear cl0 cl1 cl2 cl3 cl4 cl5
         try simp only [Act.put, nm1, nm2, nm3, i64_w]
         refine step_call (wanted_none rfl) (by first | (go_simp; done) | (go_simp; rfl)) (spec_l07Good.calls K a0 a1 x10 t104 x29 t108 0 0 t119 w115  A120.out) ?_
         rintro e w121 ⟨rfl, hu⟩
         have hu122 := Aside0.mk hu
         clear hu
         refine ⟨_, rfl, ?_⟩
         simp only [Act.put, nm1, nm2, nm3, i64_w]
         refine wpList_plain rfl (fun Ko hKo => ?_)
         go_simp
         refine hKo _ _ ?_
         clear hKo Ko
         try simp only [Act.put, nm1, nm2, nm3, i64_w]
         have hm124 := Aside0.mk (((((hu34.out.trans hu107.out).trans hu111.out).trans hu114.out).sto (Nat.le_trans ((Nat.le_trans ((Nat.le_trans ((Nat.le_trans ((Nat.le_trans (hu5.out.size) hz16.out)) hz35.out)) hu107.out.size)) hu111.out.size)) lbb112.out) hs116.out).trans hu122.out)
         have hm125 := Aside0.mk (Nat.le_trans ((Nat.le_trans ((Nat.le_trans ((Nat.le_trans ((Nat.le_trans ((Nat.le_trans ((Nat.le_trans (hu5.out.size) hz16.out)) hz35.out)) hu107.out.size)) hu111.out.size)) hu114.out.size)) (Nat.le_of_eq hs116.out.size.symm))) hu122.out.size)
         have hm126 := Aside0.mk (Nat.le_trans ((Nat.le_trans ((Nat.le_trans ((Nat.le_trans ((Nat.le_trans ((Nat.le_trans (Nat.le_refl _) hz35.out)) hu107.out.size)) hu111.out.size)) hu114.out.size)) (Nat.le_of_eq hs116.out.size.symm))) hu122.out.size)
         by_cases c123 : (t119) = true
         ·
          rw [if_pos c123] at H
          subst c123
          replace H := Option.bind_eq_some_iff.mp H
          obtain ⟨t127, A128, H⟩ := H
          replace A128 := Aside0.mk A128
          try dsimp only at H
          replace H := Option.bind_eq_some_iff.mp H
          obtain ⟨t131, A132, H⟩ := H
          replace A132 := Aside0.mk A132
          try dsimp only at H
          refine wpList_step (fun Ko hKo => ?_)
          go_simp
          refine hKo _ _ ?_
          clear hKo Ko
          try simp only [Act.put, nm1, nm2, nm3, i64_w]
          have cl0 := (hb117.up hu122.out).cell (o := 0) rfl
          have cl1 := (hb117.up hu122.out).cell (o := 1) rfl
          have cl2 := (hb117.up hu122.out).cell (o := 2) rfl
          have cl3 := (hb117.up hu122.out).cell (o := 3) rfl
          have cl4 := (hb117.up hu122.out).cell (o := 4) rfl
          have cl5 := (hb117.up hu122.out).cell (o := 5) rfl
          refine wpList_step (fun Ko hKo => ?_)
          go_simp
          refine hKo _ _ ?_
          clear hKo Ko
          clear cl0 cl1 cl2 cl3 cl4 cl5
          try simp only [Act.put, nm1, nm2, nm3, i64_w]
          refine step_call rfl (by first | (go_simp; done) | (go_simp; rfl)) (spec_l07Sign.calls K a0 x10 t104 x29 t108 0 0 t127 w121  A128.out) ?_
          rintro e w129 ⟨rfl, hu⟩
          have hu130 := Aside0.mk hu
          clear hu
          refine ⟨_, rfl, ?_⟩
          simp only [Act.put, nm1, nm2, nm3, i64_w]
          refine wpList_step (fun Ko hKo => ?_)
          go_simp
          refine hKo _ _ ?_
          clear hKo Ko
          try simp only [Act.put, nm1, nm2, nm3, i64_w]
          refine wpList_step (fun Ko hKo => ?_)
          go_simp
          refine hKo _ _ ?_
          clear hKo Ko
          try simp only [Act.put, nm1, nm2, nm3, i64_w]
          refine step_call rfl (by first | (go_simp; done) | (go_simp; rfl)) (spec_l01Mod.calls K a2 a0 t131 w129  A132.out) ?_
          rintro e w133 ⟨rfl, hu⟩
          have hu134 := Aside0.mk hu
          clear hu
          refine ⟨_, rfl, ?_⟩
          simp only [Act.put, nm1, nm2, nm3, i64_w]
          refine wpList_step (fun Ko hKo => ?_)
          go_simp
          refine hKo _ _ ?_
          clear hKo Ko
          try simp only [Act.put, nm1, nm2, nm3, i64_w]
          refine wpList_plain rfl (fun Ko hKo => ?_)
          go_simp
          refine hKo _ _ ?_
          clear hKo Ko
          try simp only [Act.put, nm1, nm2, nm3, i64_w]
          refine wpList_nil ?_
          (try simp only [Exit.then, Exit.inBlock, ↓reduceIte, Nat.reduceEqDiff])
          refine hK118 _ _ ?_
          by_cases c135 : (t127 == t131) = true
          ·
           rw [if_pos c135] at H
           have c135n : (t127 != t131) = false := by rw [bne, c135]; rfl
           replace H := Option.bind_eq_some_iff.mp H
           obtain ⟨t136, A139, H⟩ := H
           replace A139 := Aside0.mk A139
           try dsimp only at H
           have HL142 := Aside0.mk H
           clear H
           try simp only [c135, c135n, Bool.not_true, Bool.not_false]
           refine wp_cond_true rfl ?_
           refine wp_region_lit ?_
           refine wpList_plain rfl (fun Ko hKo => ?_)
           go_simp
           refine hKo _ _ ?_
           clear hKo Ko
           try simp only [Act.put, nm1, nm2, nm3, i64_w]
           have cl0 := (hb117.up ((hu122.out.trans hu130.out).trans hu134.out)).cell (o := 0) rfl
           have cl1 := (hb117.up ((hu122.out.trans hu130.out).trans hu134.out)).cell (o := 1) rfl
           have cl2 := (hb117.up ((hu122.out.trans hu130.out).trans hu134.out)).cell (o := 2) rfl
           have cl3 := (hb117.up ((hu122.out.trans hu130.out).trans hu134.out)).cell (o := 3) rfl
           have cl4 := (hb117.up ((hu122.out.trans hu130.out).trans hu134.out)).cell (o := 4) rfl
           have cl5 := (hb117.up ((hu122.out.trans hu130.out).trans hu134.out)).cell (o := 5) rfl
           refine wpList_plain rfl (fun Ko hKo => ?_)
           go_simp
           refine hKo _ _ ?_
           clear hKo Ko
           clear cl0 cl1 cl2 cl3 cl4 cl5
           try simp only [Act.put, nm1, nm2, nm3, i64_w]
           refine step_call (wanted_none rfl) (by first | (go_simp; done) | (go_simp; rfl)) (spec_l07Put.calls K P31 q32 x30 x10 t104 x29 t108 0 0 t136 w133 ((h37.up ((((((hu107.out.trans hu111.out).trans hu114.out).sto (Nat.le_trans ((Nat.le_trans (hu107.out.size) hu111.out.size)) lbb112.out) hs116.out).trans hu122.out).trans hu130.out).trans hu134.out)).rd) (Own.cap (h37.up ((((((hu107.out.trans hu111.out).trans hu114.out).sto (Nat.le_trans ((Nat.le_trans (hu107.out.size) hu111.out.size)) lbb112.out) hs116.out).trans hu122.out).trans hu130.out).trans hu134.out))) A139.out) ?_
           rintro e w140 ⟨P137, q138, rfl, ht136, hu⟩
           have hu141 := Aside0.mk hu
           clear hu
           refine ⟨_, rfl, ?_⟩
           simp only [Act.put, nm1, nm2, nm3, i64_w]
           refine wpList_plain rfl (fun Ko hKo => ?_)
           go_simp
           refine hKo _ _ ?_
           clear hKo Ko
           try simp only [Act.put, nm1, nm2, nm3, i64_w]
           refine wpList_nil ?_
           (try simp only [Exit.then, Exit.inBlock, ↓reduceIte, Nat.reduceEqDiff])
           refine hK46 _ _ ?_
           refine wp_region_lit ?_
           refine wpList_plain rfl (fun Ko hKo => ?_)
           go_simp
           refine hKo _ _ ?_
           clear hKo Ko
           try simp only [Act.put, nm1, nm2, nm3, i64_w]
           refine wpList_plain rfl (fun Ko hKo => ?_)
           go_simp
           refine hKo _ _ ?_
           clear hKo Ko
           try simp only [Act.put, nm1, nm2, nm3, i64_w]
           refine wpList_plain rfl (fun Ko hKo => ?_)
           go_simp
           refine hKo _ _ ?_
           clear hKo Ko
           try simp only [Act.put, nm1, nm2, nm3, i64_w]
           refine wpList_nil ?_
           (try simp only [Exit.then, Exit.inBlock, ↓reduceIte, Nat.reduceEqDiff])
           refine hK42 _ _ ?_
           go_roundg k38
           case measure => exact Nat.lt_succ_self _
           case rel => exact ⟨wrap64 (x29 + 1), t136, P137, q138, (by first | rfl | simp), (by first | rfl | simp), HL142, ⟨by have := hk20.out; have := hk39.out; omega⟩, ⟨(((hm124.out.trans hu130.out).trans hu134.out).trans hu141.out)⟩, ⟨(Nat.le_trans ((Nat.le_trans ((Nat.le_trans (hm126.out) hu130.out.size)) hu134.out.size)) hu141.out.size)⟩, (ht136.lower ((Nat.le_trans ((Nat.le_trans (hm125.out) hu130.out.size)) hu134.out.size)))⟩
          ·
           rw [if_neg c135] at H
           replace c135 := Bool.eq_false_iff.mpr c135
           have c135n : (t127 != t131) = true := by rw [bne, c135]; rfl
           have c135p : ¬ t127 = t131 := fun e => by simp [e] at c135
           have HL143 := Aside0.mk H
           clear H
           try simp only [c135, c135n, Bool.not_true, Bool.not_false]
           refine wp_cond_false rfl ?_
           refine wp_skip ?_
           (try simp only [Exit.then, Exit.inBlock, ↓reduceIte, Nat.reduceEqDiff])
           refine hK46 _ _ ?_
           refine wp_region_lit ?_
           refine wpList_plain rfl (fun Ko hKo => ?_)
           go_simp
           refine hKo _ _ ?_
           clear hKo Ko
           try simp only [Act.put, nm1, nm2, nm3, i64_w]
           refine wpList_plain rfl (fun Ko hKo => ?_)
           go_simp
           refine hKo _ _ ?_
           clear hKo Ko
           try simp only [Act.put, nm1, nm2, nm3, i64_w]
           refine wpList_plain rfl (fun Ko hKo => ?_)
           go_simp
           refine hKo _ _ ?_
           clear hKo Ko
           try simp only [Act.put, nm1, nm2, nm3, i64_w]
           refine wpList_nil ?_
           (try simp only [Exit.then, Exit.inBlock, ↓reduceIte, Nat.reduceEqDiff])
           refine hK42 _ _ ?_
           go_roundg k38
           case measure => exact Nat.lt_succ_self _
           case rel => exact ⟨wrap64 (x29 + 1), x30, P31, q32, (by first | rfl | simp), (by first | rfl | simp), HL143, ⟨by have := hk20.out; have := hk39.out; omega⟩, ⟨((hm124.out.trans hu130.out).trans hu134.out)⟩, ⟨(Nat.le_trans ((Nat.le_trans (hm126.out) hu130.out.size)) hu134.out.size)⟩, (h37.up ((((((hu107.out.trans hu111.out).trans hu114.out).sto (Nat.le_trans ((Nat.le_trans (hu107.out.size) hu111.out.size)) lbb112.out) hs116.out).trans hu122.out).trans hu130.out).trans hu134.out))⟩
         ·
          rw [if_neg c123] at H
          replace c123 := Bool.eq_false_iff.mpr c123
          subst c123
          have HL144 := Aside0.mk H
          clear H
          refine step_no rfl ?_
          simp only [Act.put, nm1, nm2, nm3, i64_w]
          refine step_no rfl ?_
          simp only [Act.put, nm1, nm2, nm3, i64_w]
          refine step_no rfl ?_
          simp only [Act.put, nm1, nm2, nm3, i64_w]
          refine step_no rfl ?_
          simp only [Act.put, nm1, nm2, nm3, i64_w]
          refine step_no rfl ?_
          simp only [Act.put, nm1, nm2, nm3, i64_w]
          refine step_no rfl ?_
          simp only [Act.put, nm1, nm2, nm3, i64_w]
          refine step_no rfl ?_
          simp only [Act.put, nm1, nm2, nm3, i64_w]
          refine wpList_plain rfl (fun Ko hKo => ?_)
          go_simp
          refine hKo _ _ ?_
          clear hKo Ko
          try simp only [Act.put, nm1, nm2, nm3, i64_w]
          refine wpList_nil ?_
          (try simp only [Exit.then, Exit.inBlock, ↓reduceIte, Nat.reduceEqDiff])
          refine hK118 _ _ ?_
          refine wp_cond_false rfl ?_
          refine wp_skip ?_
          (try simp only [Exit.then, Exit.inBlock, ↓reduceIte, Nat.reduceEqDiff])
          refine hK46 _ _ ?_
          refine wp_region_lit ?_
          refine wpList_plain rfl (fun Ko hKo => ?_)
          go_simp
          refine hKo _ _ ?_
          clear hKo Ko
          try simp only [Act.put, nm1, nm2, nm3, i64_w]
          refine wpList_plain rfl (fun Ko hKo => ?_)
          go_simp
          refine hKo _ _ ?_
          clear hKo Ko
          try simp only [Act.put, nm1, nm2, nm3, i64_w]
          refine wpList_plain rfl (fun Ko hKo => ?_)
          go_simp
          refine hKo _ _ ?_
          clear hKo Ko
          try simp only [Act.put, nm1, nm2, nm3, i64_w]
          refine wpList_nil ?_
          (try simp only [Exit.then, Exit.inBlock, ↓reduceIte, Nat.reduceEqDiff])
          refine hK42 _ _ ?_
          go_roundg k38
          case measure => exact Nat.lt_succ_self _
          case rel => exact ⟨wrap64 (x29 + 1), x30, P31, q32, (by first | rfl | simp), (by first | rfl | simp), HL144, ⟨by have := hk20.out; have := hk39.out; omega⟩, ⟨hm124.out⟩, ⟨hm126.out⟩, (h37.up ((((hu107.out.trans hu111.out).trans hu114.out).sto (Nat.le_trans ((Nat.le_trans (hu107.out.size) hu111.out.size)) lbb112.out) hs116.out).trans hu122.out))⟩
        ·
         rw [if_neg c102] at H
         replace c102 := Bool.eq_false_iff.mpr c102
         have c102n : (x29 != 0) = true := by rw [bne, c102]; rfl
         have c102p : ¬ x29 = 0 := fun e => by simp [e] at c102
         replace H := Option.bind_eq_some_iff.mp H
         obtain ⟨t145, A146, H⟩ := H
         replace A146 := Aside0.mk A146
         try dsimp only at H
         replace H := Option.bind_eq_some_iff.mp H
         obtain ⟨t150, A151, H⟩ := H
         replace A151 := Aside0.mk A151
         try dsimp only at H
         replace H := Option.bind_eq_some_iff.mp H
         obtain ⟨t154, A155, H⟩ := H
         replace A155 := Aside0.mk A155
         try dsimp only at H
         replace H := Option.bind_eq_some_iff.mp H
         obtain ⟨t165, A166, H⟩ := H
         replace A166 := Aside0.mk A166
         try dsimp only at H
         try simp only [c102, c102n, Bool.not_true, Bool.not_false]
         refine wp_cond_true rfl ?_
         refine wp_region_lit ?_
         refine wpList_plain rfl (fun Ko hKo => ?_)
         go_simp
         refine hKo _ _ ?_
         clear hKo Ko
         try simp only [Act.put, nm1, nm2, nm3, i64_w]
         refine wpList_plain rfl (fun Ko hKo => ?_)
         go_simp
         refine hKo _ _ ?_
         clear hKo Ko
         try simp only [Act.put, nm1, nm2, nm3, i64_w]
         refine step_call (wanted_none rfl) (by first | (go_simp; done) | (go_simp; rfl)) (spec_l01Inverse.calls K x29 a0 t145 w33  A146.out) ?_
         rintro e w147 ⟨rfl, hu⟩
         have hu148 := Aside0.mk hu
         clear hu
         refine ⟨_, rfl, ?_⟩
         simp only [Act.put, nm1, nm2, nm3, i64_w]
         refine wpList_plain rfl (fun Ko hKo => ?_)
         go_simp
         refine hKo _ _ ?_
         clear hKo Ko
         try simp only [Act.put, nm1, nm2, nm3, i64_w]
         refine wpList_nil ?_
         (try simp only [Exit.then, Exit.inBlock, ↓reduceIte, Nat.reduceEqDiff])
         refine hK48 _ _ ?_
         refine wp_seq_k (fun K149 hK149 => ?_)
         refine wp_region_lit ?_
         refine wpList_plain rfl (fun Ko hKo => ?_)
         go_simp
         refine hKo _ _ ?_
         clear hKo Ko
         try simp only [Act.put, nm1, nm2, nm3, i64_w]
         refine wpList_plain rfl (fun Ko hKo => ?_)
         go_simp
         refine hKo _ _ ?_
         clear hKo Ko
         try simp only [Act.put, nm1, nm2, nm3, i64_w]
         refine wpList_plain rfl (fun Ko hKo => ?_)
         go_simp
         refine hKo _ _ ?_
         clear hKo Ko
         try simp only [Act.put, nm1, nm2, nm3, i64_w]
         refine step_call (wanted_none rfl) (by first | (go_simp; done) | (go_simp; rfl)) (spec_l01Mod.calls K t145 a0 t150 w147  A151.out) ?_
         rintro e w152 ⟨rfl, hu⟩
         have hu153 := Aside0.mk hu
         clear hu
         refine ⟨_, rfl, ?_⟩
         simp only [Act.put, nm1, nm2, nm3, i64_w]
         refine wpList_plain rfl (fun Ko hKo => ?_)
         go_simp
         refine hKo _ _ ?_
         clear hKo Ko
         try simp only [Act.put, nm1, nm2, nm3, i64_w]
         refine wpList_plain rfl (fun Ko hKo => ?_)
         go_simp
         refine hKo _ _ ?_
         clear hKo Ko
         try simp only [Act.put, nm1, nm2, nm3, i64_w]
         refine wpList_plain rfl (fun Ko hKo => ?_)
         go_simp
         refine hKo _ _ ?_
         clear hKo Ko
         try simp only [Act.put, nm1, nm2, nm3, i64_w]
         refine step_call (wanted_none rfl) (by first | (go_simp; done) | (go_simp; rfl)) (spec_l01Mod.calls K x10 a0 t154 w152  A155.out) ?_
         rintro e w156 ⟨rfl, hu⟩
         have hu157 := Aside0.mk hu
         clear hu
         refine ⟨_, rfl, ?_⟩
         simp only [Act.put, nm1, nm2, nm3, i64_w]
         refine wpList_plain rfl (fun Ko hKo => ?_)
         go_simp
         refine hKo _ _ ?_
         clear hKo Ko
         try simp only [Act.put, nm1, nm2, nm3, i64_w]
         refine wpList_plain rfl (fun Ko hKo => ?_)
         go_simp
         refine hKo _ _ ?_
         clear hKo Ko
         try simp only [Act.put, nm1, nm2, nm3, i64_w]
         refine step_new (cs := [.int .i64 0, .int .i64 0, .int .i64 0, .int .i64 0, .int .i64 0, .int .i64 0]) (T := 30) (f := fun b => .pointer (some ⟨b, 0, none⟩)) rfl (by first | (go_simp; done) | (go_simp; rfl)) ?_
         intro b158 w159 hu lb hb158
         simp only [Act.put, nm1, nm2, nm3, i64_w]
         have lbb158 := Aside0.mk lb
         have ltb158 := Aside0.mk hb158.lt
         clear lb
         have hu160 := Aside0.mk hu
         clear hu
         have hB0 := hb158
         have cl0 := hB0.cell (o := 0) rfl
         have fr0 := hB0.free 0
         have cl1 := hB0.cell (o := 1) rfl
         have fr1 := hB0.free 1
         have cl2 := hB0.cell (o := 2) rfl
         have fr2 := hB0.free 2
         have cl3 := hB0.cell (o := 3) rfl
         have fr3 := hB0.free 3
         have cl4 := hB0.cell (o := 4) rfl
         have fr4 := hB0.free 4
         have cl5 := hB0.cell (o := 5) rfl
         have fr5 := hB0.free 5
         refine step_store (b := b158) (cs' := [.int .i64 x10, .int .i64 t150, .int .i64 x29, .int .i64 t154, .int .i64 0, .int .i64 0]) (T := 30) (W' := ((((((w159.setCell ⟨b158, 0, none⟩ (.int .i64 x10)).setCell ⟨b158, 1, none⟩ (.int .i64 t150)).setCell ⟨b158, 2, none⟩ (.int .i64 x29)).setCell ⟨b158, 3, none⟩ (.int .i64 t154)).setCell ⟨b158, 4, none⟩ (.int .i64 0)).setCell ⟨b158, 5, none⟩ (.int .i64 0))) rfl rfl (by first | (go_simp; done) | (go_simp; rfl)) (((((((Sto.refl _ _).setCell 0 _).setCell 1 _).setCell 2 _).setCell 3 _).setCell 4 _).setCell 5 _) (((((((hB0).setCell 0 _).setCell 1 _).setCell 2 _).setCell 3 _).setCell 4 _).setCell 5 _) ?_
         clear hB0 cl0 fr0 cl1 fr1 cl2 fr2 cl3 fr3 cl4 fr4 cl5 fr5
         intro w161 hs hb163
         have hs162 := Aside0.mk hs
         clear hs
         refine wpList_nil ?_
         (try simp only [Exit.then, Exit.inBlock, ↓reduceIte, Nat.reduceEqDiff])
         refine hK149 _ _ ?_
         refine wp_seq_k (fun K164 hK164 => ?_)
         refine wp_region_lit ?_
         refine wpList_plain rfl (fun Ko hKo => ?_)
         go_simp
         refine hKo _ _ ?_
         clear hKo Ko
         try simp only [Act.put, nm1, nm2, nm3, i64_w]
         refine wpList_plain rfl (fun Ko hKo => ?_)
         go_simp
         refine hKo _ _ ?_
         clear hKo Ko
         try simp only [Act.put, nm1, nm2, nm3, i64_w]
         have cl0 := hb163.cell (o := 0) rfl
         have cl1 := hb163.cell (o := 1) rfl
         have cl2 := hb163.cell (o := 2) rfl
         have cl3 := hb163.cell (o := 3) rfl
         have cl4 := hb163.cell (o := 4) rfl
         have cl5 := hb163.cell (o := 5) rfl
         refine wpList_plain rfl (fun Ko hKo => ?_)
         go_simp
         refine hKo _ _ ?_
         clear hKo Ko
         clear cl0 cl1 cl2 cl3 cl4 cl5
         try simp only [Act.put, nm1, nm2, nm3, i64_w]
         refine step_call (wanted_none rfl) (by first | (go_simp; done) | (go_simp; rfl)) (spec_l07Good.calls K a0 a1 x10 t150 x29 t154 0 0 t165 w161  A166.out) ?_
         rintro e w167 ⟨rfl, hu⟩
         have hu168 := Aside0.mk hu
         clear hu
         refine ⟨_, rfl, ?_⟩
         simp only [Act.put, nm1, nm2, nm3, i64_w]
         refine wpList_plain rfl (fun Ko hKo => ?_)
         go_simp
         refine hKo _ _ ?_
         clear hKo Ko
         try simp only [Act.put, nm1, nm2, nm3, i64_w]
         have hm170 := Aside0.mk ((((((hu34.out.trans hu148.out).trans hu153.out).trans hu157.out).trans hu160.out).sto (Nat.le_trans ((Nat.le_trans ((Nat.le_trans ((Nat.le_trans ((Nat.le_trans ((Nat.le_trans (hu5.out.size) hz16.out)) hz35.out)) hu148.out.size)) hu153.out.size)) hu157.out.size)) lbb158.out) hs162.out).trans hu168.out)
         have hm171 := Aside0.mk (Nat.le_trans ((Nat.le_trans ((Nat.le_trans ((Nat.le_trans ((Nat.le_trans ((Nat.le_trans ((Nat.le_trans ((Nat.le_trans (hu5.out.size) hz16.out)) hz35.out)) hu148.out.size)) hu153.out.size)) hu157.out.size)) hu160.out.size)) (Nat.le_of_eq hs162.out.size.symm))) hu168.out.size)
         have hm172 := Aside0.mk (Nat.le_trans ((Nat.le_trans ((Nat.le_trans ((Nat.le_trans ((Nat.le_trans ((Nat.le_trans ((Nat.le_trans (Nat.le_refl _) hz35.out)) hu148.out.size)) hu153.out.size)) hu157.out.size)) hu160.out.size)) (Nat.le_of_eq hs162.out.size.symm))) hu168.out.size)
         by_cases c169 : (t165) = true
         ·
          rw [if_pos c169] at H
          subst c169
          replace H := Option.bind_eq_some_iff.mp H
          obtain ⟨t173, A174, H⟩ := H
          replace A174 := Aside0.mk A174
          try dsimp only at H
          replace H := Option.bind_eq_some_iff.mp H
          obtain ⟨t177, A178, H⟩ := H
          replace A178 := Aside0.mk A178
          try dsimp only at H
          refine wpList_step (fun Ko hKo => ?_)
          go_simp
          refine hKo _ _ ?_
          clear hKo Ko
          try simp only [Act.put, nm1, nm2, nm3, i64_w]
          have cl0 := (hb163.up hu168.out).cell (o := 0) rfl
          have cl1 := (hb163.up hu168.out).cell (o := 1) rfl
          have cl2 := (hb163.up hu168.out).cell (o := 2) rfl
          have cl3 := (hb163.up hu168.out).cell (o := 3) rfl
          have cl4 := (hb163.up hu168.out).cell (o := 4) rfl
          have cl5 := (hb163.up hu168.out).cell (o := 5) rfl
          refine wpList_step (fun Ko hKo => ?_)
          go_simp
          refine hKo _ _ ?_
          clear hKo Ko
          clear cl0 cl1 cl2 cl3 cl4 cl5
          try simp only [Act.put, nm1, nm2, nm3, i64_w]
          refine step_call rfl (by first | (go_simp; done) | (go_simp; rfl)) (spec_l07Sign.calls K a0 x10 t150 x29 t154 0 0 t173 w167  A174.out) ?_
          rintro e w175 ⟨rfl, hu⟩
          have hu176 := Aside0.mk hu
          clear hu
          refine ⟨_, rfl, ?_⟩
          simp only [Act.put, nm1, nm2, nm3, i64_w]
          refine wpList_step (fun Ko hKo => ?_)
          go_simp
          refine hKo _ _ ?_
          clear hKo Ko
          try simp only [Act.put, nm1, nm2, nm3, i64_w]
          refine wpList_step (fun Ko hKo => ?_)
          go_simp
          refine hKo _ _ ?_
          clear hKo Ko
          try simp only [Act.put, nm1, nm2, nm3, i64_w]
          refine step_call rfl (by first | (go_simp; done) | (go_simp; rfl)) (spec_l01Mod.calls K a2 a0 t177 w175  A178.out) ?_
          rintro e w179 ⟨rfl, hu⟩
          have hu180 := Aside0.mk hu
          clear hu
          refine ⟨_, rfl, ?_⟩
          simp only [Act.put, nm1, nm2, nm3, i64_w]
          refine wpList_step (fun Ko hKo => ?_)
          go_simp
          refine hKo _ _ ?_
          clear hKo Ko
          try simp only [Act.put, nm1, nm2, nm3, i64_w]
          refine wpList_plain rfl (fun Ko hKo => ?_)
          go_simp
          refine hKo _ _ ?_
          clear hKo Ko
          try simp only [Act.put, nm1, nm2, nm3, i64_w]
          refine wpList_nil ?_
          (try simp only [Exit.then, Exit.inBlock, ↓reduceIte, Nat.reduceEqDiff])
          refine hK164 _ _ ?_
          by_cases c181 : (t173 == t177) = true
          ·
           rw [if_pos c181] at H
           have c181n : (t173 != t177) = false := by rw [bne, c181]; rfl
           replace H := Option.bind_eq_some_iff.mp H
           obtain ⟨t182, A185, H⟩ := H
           replace A185 := Aside0.mk A185
           try dsimp only at H
           have HL188 := Aside0.mk H
           clear H
           try simp only [c181, c181n, Bool.not_true, Bool.not_false]
           refine wp_cond_true rfl ?_
           refine wp_region_lit ?_
           refine wpList_plain rfl (fun Ko hKo => ?_)
           go_simp
           refine hKo _ _ ?_
           clear hKo Ko
           try simp only [Act.put, nm1, nm2, nm3, i64_w]
           have cl0 := (hb163.up ((hu168.out.trans hu176.out).trans hu180.out)).cell (o := 0) rfl
           have cl1 := (hb163.up ((hu168.out.trans hu176.out).trans hu180.out)).cell (o := 1) rfl
           have cl2 := (hb163.up ((hu168.out.trans hu176.out).trans hu180.out)).cell (o := 2) rfl
           have cl3 := (hb163.up ((hu168.out.trans hu176.out).trans hu180.out)).cell (o := 3) rfl
           have cl4 := (hb163.up ((hu168.out.trans hu176.out).trans hu180.out)).cell (o := 4) rfl
           have cl5 := (hb163.up ((hu168.out.trans hu176.out).trans hu180.out)).cell (o := 5) rfl
           refine wpList_plain rfl (fun Ko hKo => ?_)
           go_simp
           refine hKo _ _ ?_
           clear hKo Ko
           clear cl0 cl1 cl2 cl3 cl4 cl5
           try simp only [Act.put, nm1, nm2, nm3, i64_w]
           refine step_call (wanted_none rfl) (by first | (go_simp; done) | (go_simp; rfl)) (spec_l07Put.calls K P31 q32 x30 x10 t150 x29 t154 0 0 t182 w179 ((h37.up (((((((hu148.out.trans hu153.out).trans hu157.out).trans hu160.out).sto (Nat.le_trans ((Nat.le_trans ((Nat.le_trans (hu148.out.size) hu153.out.size)) hu157.out.size)) lbb158.out) hs162.out).trans hu168.out).trans hu176.out).trans hu180.out)).rd) (Own.cap (h37.up (((((((hu148.out.trans hu153.out).trans hu157.out).trans hu160.out).sto (Nat.le_trans ((Nat.le_trans ((Nat.le_trans (hu148.out.size) hu153.out.size)) hu157.out.size)) lbb158.out) hs162.out).trans hu168.out).trans hu176.out).trans hu180.out))) A185.out) ?_
           rintro e w186 ⟨P183, q184, rfl, ht182, hu⟩
           have hu187 := Aside0.mk hu
           clear hu
           refine ⟨_, rfl, ?_⟩
           simp only [Act.put, nm1, nm2, nm3, i64_w]
           refine wpList_plain rfl (fun Ko hKo => ?_)
           go_simp
           refine hKo _ _ ?_
           clear hKo Ko
           try simp only [Act.put, nm1, nm2, nm3, i64_w]
           refine wpList_nil ?_
           (try simp only [Exit.then, Exit.inBlock, ↓reduceIte, Nat.reduceEqDiff])
           refine hK46 _ _ ?_
           refine wp_region_lit ?_
           refine wpList_plain rfl (fun Ko hKo => ?_)
           go_simp
           refine hKo _ _ ?_
           clear hKo Ko
           try simp only [Act.put, nm1, nm2, nm3, i64_w]
           refine wpList_plain rfl (fun Ko hKo => ?_)
           go_simp
           refine hKo _ _ ?_
           clear hKo Ko
           try simp only [Act.put, nm1, nm2, nm3, i64_w]
           refine wpList_plain rfl (fun Ko hKo => ?_)
           go_simp
           refine hKo _ _ ?_
           clear hKo Ko
           try simp only [Act.put, nm1, nm2, nm3, i64_w]
           refine wpList_nil ?_
           (try simp only [Exit.then, Exit.inBlock, ↓reduceIte, Nat.reduceEqDiff])
           refine hK42 _ _ ?_
           go_roundg k38
           case measure => exact Nat.lt_succ_self _
           case rel => exact ⟨wrap64 (x29 + 1), t182, P183, q184, (by first | rfl | simp), (by first | rfl | simp), HL188, ⟨by have := hk20.out; have := hk39.out; omega⟩, ⟨(((hm170.out.trans hu176.out).trans hu180.out).trans hu187.out)⟩, ⟨(Nat.le_trans ((Nat.le_trans ((Nat.le_trans (hm172.out) hu176.out.size)) hu180.out.size)) hu187.out.size)⟩, (ht182.lower ((Nat.le_trans ((Nat.le_trans (hm171.out) hu176.out.size)) hu180.out.size)))⟩
          ·
           rw [if_neg c181] at H
           replace c181 := Bool.eq_false_iff.mpr c181
           have c181n : (t173 != t177) = true := by rw [bne, c181]; rfl
           have c181p : ¬ t173 = t177 := fun e => by simp [e] at c181
           have HL189 := Aside0.mk H
           clear H
           try simp only [c181, c181n, Bool.not_true, Bool.not_false]
           refine wp_cond_false rfl ?_
           refine wp_skip ?_
           (try simp only [Exit.then, Exit.inBlock, ↓reduceIte, Nat.reduceEqDiff])
           refine hK46 _ _ ?_
           refine wp_region_lit ?_
           refine wpList_plain rfl (fun Ko hKo => ?_)
           go_simp
           refine hKo _ _ ?_
           clear hKo Ko
           try simp only [Act.put, nm1, nm2, nm3, i64_w]
           refine wpList_plain rfl (fun Ko hKo => ?_)
           go_simp
           refine hKo _ _ ?_
           clear hKo Ko
           try simp only [Act.put, nm1, nm2, nm3, i64_w]
           refine wpList_plain rfl (fun Ko hKo => ?_)
           go_simp
           refine hKo _ _ ?_
           clear hKo Ko
           try simp only [Act.put, nm1, nm2, nm3, i64_w]
           refine wpList_nil ?_
           (try simp only [Exit.then, Exit.inBlock, ↓reduceIte, Nat.reduceEqDiff])
           refine hK42 _ _ ?_
           go_roundg k38
           case measure => exact Nat.lt_succ_self _
           case rel => exact ⟨wrap64 (x29 + 1), x30, P31, q32, (by first | rfl | simp), (by first | rfl | simp), HL189, ⟨by have := hk20.out; have := hk39.out; omega⟩, ⟨((hm170.out.trans hu176.out).trans hu180.out)⟩, ⟨(Nat.le_trans ((Nat.le_trans (hm172.out) hu176.out.size)) hu180.out.size)⟩, (h37.up (((((((hu148.out.trans hu153.out).trans hu157.out).trans hu160.out).sto (Nat.le_trans ((Nat.le_trans ((Nat.le_trans (hu148.out.size) hu153.out.size)) hu157.out.size)) lbb158.out) hs162.out).trans hu168.out).trans hu176.out).trans hu180.out))⟩
         ·
          rw [if_neg c169] at H
          replace c169 := Bool.eq_false_iff.mpr c169
          subst c169
          have HL190 := Aside0.mk H
          clear H
          refine step_no rfl ?_
          simp only [Act.put, nm1, nm2, nm3, i64_w]
          refine step_no rfl ?_
          simp only [Act.put, nm1, nm2, nm3, i64_w]
          refine step_no rfl ?_
          simp only [Act.put, nm1, nm2, nm3, i64_w]
          refine step_no rfl ?_
          simp only [Act.put, nm1, nm2, nm3, i64_w]
          refine step_no rfl ?_
          simp only [Act.put, nm1, nm2, nm3, i64_w]
          refine step_no rfl ?_
          simp only [Act.put, nm1, nm2, nm3, i64_w]
          refine step_no rfl ?_
          simp only [Act.put, nm1, nm2, nm3, i64_w]
          refine wpList_plain rfl (fun Ko hKo => ?_)
          go_simp
          refine hKo _ _ ?_
          clear hKo Ko
          try simp only [Act.put, nm1, nm2, nm3, i64_w]
          refine wpList_nil ?_
          (try simp only [Exit.then, Exit.inBlock, ↓reduceIte, Nat.reduceEqDiff])
          refine hK164 _ _ ?_
          refine wp_cond_false rfl ?_
          refine wp_skip ?_
          (try simp only [Exit.then, Exit.inBlock, ↓reduceIte, Nat.reduceEqDiff])
          refine hK46 _ _ ?_
          refine wp_region_lit ?_
          refine wpList_plain rfl (fun Ko hKo => ?_)
          go_simp
          refine hKo _ _ ?_
          clear hKo Ko
          try simp only [Act.put, nm1, nm2, nm3, i64_w]
          refine wpList_plain rfl (fun Ko hKo => ?_)
          go_simp
          refine hKo _ _ ?_
          clear hKo Ko
          try simp only [Act.put, nm1, nm2, nm3, i64_w]
          refine wpList_plain rfl (fun Ko hKo => ?_)
          go_simp
          refine hKo _ _ ?_
          clear hKo Ko
          try simp only [Act.put, nm1, nm2, nm3, i64_w]
          refine wpList_nil ?_
          (try simp only [Exit.then, Exit.inBlock, ↓reduceIte, Nat.reduceEqDiff])
          refine hK42 _ _ ?_
          go_roundg k38
          case measure => exact Nat.lt_succ_self _
          case rel => exact ⟨wrap64 (x29 + 1), x30, P31, q32, (by first | rfl | simp), (by first | rfl | simp), HL190, ⟨by have := hk20.out; have := hk39.out; omega⟩, ⟨hm170.out⟩, ⟨hm172.out⟩, (h37.up (((((hu148.out.trans hu153.out).trans hu157.out).trans hu160.out).sto (Nat.le_trans ((Nat.le_trans ((Nat.le_trans (hu148.out.size) hu153.out.size)) hu157.out.size)) lbb158.out) hs162.out).trans hu168.out))⟩
       ·
        rw [if_neg c100] at H
        replace c100 := Bool.eq_false_iff.mpr c100
        have c100n : (x10 != 0) = true := by rw [bne, c100]; rfl
        have c100p : ¬ x10 = 0 := fun e => by simp [e] at c100
        replace H := Option.bind_eq_some_iff.mp H
        obtain ⟨t191, A192, H⟩ := H
        replace A192 := Aside0.mk A192
        try dsimp only at H
        try simp only [c100, c100n, Bool.not_true, Bool.not_false]
        refine wp_cond_true rfl ?_
        refine wp_region_lit ?_
        refine wpList_plain rfl (fun Ko hKo => ?_)
        go_simp
        refine hKo _ _ ?_
        clear hKo Ko
        try simp only [Act.put, nm1, nm2, nm3, i64_w]
        refine wpList_plain rfl (fun Ko hKo => ?_)
        go_simp
        refine hKo _ _ ?_
        clear hKo Ko
        try simp only [Act.put, nm1, nm2, nm3, i64_w]
        refine step_call (wanted_none rfl) (by first | (go_simp; done) | (go_simp; rfl)) (spec_l01Inverse.calls K x10 a0 t191 w33  A192.out) ?_
        rintro e w193 ⟨rfl, hu⟩
        have hu194 := Aside0.mk hu
        clear hu
        refine ⟨_, rfl, ?_⟩
        simp only [Act.put, nm1, nm2, nm3, i64_w]
        refine wpList_plain rfl (fun Ko hKo => ?_)
        go_simp
        refine hKo _ _ ?_
        clear hKo Ko
        try simp only [Act.put, nm1, nm2, nm3, i64_w]
        refine wpList_nil ?_
        (try simp only [Exit.then, Exit.inBlock, ↓reduceIte, Nat.reduceEqDiff])
        refine hK98 _ _ ?_
        refine wp_seq_k (fun K195 hK195 => ?_)
        refine wp_region_lit ?_
        refine wpList_plain rfl (fun Ko hKo => ?_)
        go_simp
        refine hKo _ _ ?_
        clear hKo Ko
        try simp only [Act.put, nm1, nm2, nm3, i64_w]
        refine wpList_plain rfl (fun Ko hKo => ?_)
        go_simp
        refine hKo _ _ ?_
        clear hKo Ko
        try simp only [Act.put, nm1, nm2, nm3, i64_w]
        refine wpList_nil ?_
        (try simp only [Exit.then, Exit.inBlock, ↓reduceIte, Nat.reduceEqDiff])
        refine hK195 _ _ ?_
        have hm197 := Aside0.mk (Nat.le_trans ((Nat.le_trans ((Nat.le_trans (hu5.out.size) hz16.out)) hz35.out)) hu194.out.size)
        by_cases c196 : (x29 == 0) = true
        ·
         rw [if_pos c196] at H
         have c196n : (x29 != 0) = false := by rw [bne, c196]; rfl
         replace H := Option.bind_eq_some_iff.mp H
         obtain ⟨t199, A200, H⟩ := H
         replace A200 := Aside0.mk A200
         try dsimp only at H
         replace H := Option.bind_eq_some_iff.mp H
         obtain ⟨t203, A204, H⟩ := H
         replace A204 := Aside0.mk A204
         try dsimp only at H
         replace H := Option.bind_eq_some_iff.mp H
         obtain ⟨t214, A215, H⟩ := H
         replace A215 := Aside0.mk A215
         try dsimp only at H
         try simp only [c196, c196n, Bool.not_true, Bool.not_false]
         refine wp_cond_false rfl ?_
         refine wp_skip ?_
         (try simp only [Exit.then, Exit.inBlock, ↓reduceIte, Nat.reduceEqDiff])
         refine hK48 _ _ ?_
         refine wp_seq_k (fun K198 hK198 => ?_)
         refine wp_region_lit ?_
         refine wpList_plain rfl (fun Ko hKo => ?_)
         go_simp
         refine hKo _ _ ?_
         clear hKo Ko
         try simp only [Act.put, nm1, nm2, nm3, i64_w]
         refine wpList_plain rfl (fun Ko hKo => ?_)
         go_simp
         refine hKo _ _ ?_
         clear hKo Ko
         try simp only [Act.put, nm1, nm2, nm3, i64_w]
         refine wpList_plain rfl (fun Ko hKo => ?_)
         go_simp
         refine hKo _ _ ?_
         clear hKo Ko
         try simp only [Act.put, nm1, nm2, nm3, i64_w]
         refine step_call (wanted_none rfl) (by first | (go_simp; done) | (go_simp; rfl)) (spec_l01Mod.calls K x29 a0 t199 w193  A200.out) ?_
         rintro e w201 ⟨rfl, hu⟩
         have hu202 := Aside0.mk hu
         clear hu
         refine ⟨_, rfl, ?_⟩
         simp only [Act.put, nm1, nm2, nm3, i64_w]
         refine wpList_plain rfl (fun Ko hKo => ?_)
         go_simp
         refine hKo _ _ ?_
         clear hKo Ko
         try simp only [Act.put, nm1, nm2, nm3, i64_w]
         refine wpList_plain rfl (fun Ko hKo => ?_)
         go_simp
         refine hKo _ _ ?_
         clear hKo Ko
         try simp only [Act.put, nm1, nm2, nm3, i64_w]
         refine wpList_plain rfl (fun Ko hKo => ?_)
         go_simp
         refine hKo _ _ ?_
         clear hKo Ko
         try simp only [Act.put, nm1, nm2, nm3, i64_w]
         refine step_call (wanted_none rfl) (by first | (go_simp; done) | (go_simp; rfl)) (spec_l01Mod.calls K t191 a0 t203 w201  A204.out) ?_
         rintro e w205 ⟨rfl, hu⟩
         have hu206 := Aside0.mk hu
         clear hu
         refine ⟨_, rfl, ?_⟩
         simp only [Act.put, nm1, nm2, nm3, i64_w]
         refine wpList_plain rfl (fun Ko hKo => ?_)
         go_simp
         refine hKo _ _ ?_
         clear hKo Ko
         try simp only [Act.put, nm1, nm2, nm3, i64_w]
         refine wpList_plain rfl (fun Ko hKo => ?_)
         go_simp
         refine hKo _ _ ?_
         clear hKo Ko
         try simp only [Act.put, nm1, nm2, nm3, i64_w]
         refine step_new (cs := [.int .i64 0, .int .i64 0, .int .i64 0, .int .i64 0, .int .i64 0, .int .i64 0]) (T := 30) (f := fun b => .pointer (some ⟨b, 0, none⟩)) rfl (by first | (go_simp; done) | (go_simp; rfl)) ?_
         intro b207 w208 hu lb hb207
         simp only [Act.put, nm1, nm2, nm3, i64_w]
         have lbb207 := Aside0.mk lb
         have ltb207 := Aside0.mk hb207.lt
         clear lb
         have hu209 := Aside0.mk hu
         clear hu
         have hB0 := hb207
         have cl0 := hB0.cell (o := 0) rfl
         have fr0 := hB0.free 0
         have cl1 := hB0.cell (o := 1) rfl
         have fr1 := hB0.free 1
         have cl2 := hB0.cell (o := 2) rfl
         have fr2 := hB0.free 2
         have cl3 := hB0.cell (o := 3) rfl
         have fr3 := hB0.free 3
         have cl4 := hB0.cell (o := 4) rfl
         have fr4 := hB0.free 4
         have cl5 := hB0.cell (o := 5) rfl
         have fr5 := hB0.free 5
         refine step_store (b := b207) (cs' := [.int .i64 x10, .int .i64 t199, .int .i64 x29, .int .i64 t203, .int .i64 0, .int .i64 0]) (T := 30) (W' := ((((((w208.setCell ⟨b207, 0, none⟩ (.int .i64 x10)).setCell ⟨b207, 1, none⟩ (.int .i64 t199)).setCell ⟨b207, 2, none⟩ (.int .i64 x29)).setCell ⟨b207, 3, none⟩ (.int .i64 t203)).setCell ⟨b207, 4, none⟩ (.int .i64 0)).setCell ⟨b207, 5, none⟩ (.int .i64 0))) rfl rfl (by first | (go_simp; done) | (go_simp; rfl)) (((((((Sto.refl _ _).setCell 0 _).setCell 1 _).setCell 2 _).setCell 3 _).setCell 4 _).setCell 5 _) (((((((hB0).setCell 0 _).setCell 1 _).setCell 2 _).setCell 3 _).setCell 4 _).setCell 5 _) ?_
         clear hB0 cl0 fr0 cl1 fr1 cl2 fr2 cl3 fr3 cl4 fr4 cl5 fr5
         intro w210 hs hb212
         have hs211 := Aside0.mk hs
         clear hs
         refine wpList_nil ?_
         (try simp only [Exit.then, Exit.inBlock, ↓reduceIte, Nat.reduceEqDiff])
         refine hK198 _ _ ?_
         refine wp_seq_k (fun K213 hK213 => ?_)
         refine wp_region_lit ?_
         refine wpList_plain rfl (fun Ko hKo => ?_)
         go_simp
         refine hKo _ _ ?_
         clear hKo Ko
         try simp only [Act.put, nm1, nm2, nm3, i64_w]
         refine wpList_plain rfl (fun Ko hKo => ?_)
         go_simp
         refine hKo _ _ ?_
         clear hKo Ko
         try simp only [Act.put, nm1, nm2, nm3, i64_w]
         have cl0 := hb212.cell (o := 0) rfl
         have cl1 := hb212.cell (o := 1) rfl
         have cl2 := hb212.cell (o := 2) rfl
         have cl3 := hb212.cell (o := 3) rfl
         have cl4 := hb212.cell (o := 4) rfl
         have cl5 := hb212.cell (o := 5) rfl
         refine wpList_plain rfl (fun Ko hKo => ?_)
         go_simp
         refine hKo _ _ ?_
         clear hKo Ko
         clear cl0 cl1 cl2 cl3 cl4 cl5
         try simp only [Act.put, nm1, nm2, nm3, i64_w]
         refine step_call (wanted_none rfl) (by first | (go_simp; done) | (go_simp; rfl)) (spec_l07Good.calls K a0 a1 x10 t199 x29 t203 0 0 t214 w210  A215.out) ?_
         rintro e w216 ⟨rfl, hu⟩
         have hu217 := Aside0.mk hu
         clear hu
         refine ⟨_, rfl, ?_⟩
         simp only [Act.put, nm1, nm2, nm3, i64_w]
         refine wpList_plain rfl (fun Ko hKo => ?_)
         go_simp
         refine hKo _ _ ?_
         clear hKo Ko
         try simp only [Act.put, nm1, nm2, nm3, i64_w]
         have hm219 := Aside0.mk ((((((hu34.out.trans hu194.out).trans hu202.out).trans hu206.out).trans hu209.out).sto (Nat.le_trans ((Nat.le_trans ((Nat.le_trans (hm197.out) hu202.out.size)) hu206.out.size)) lbb207.out) hs211.out).trans hu217.out)
         have hm220 := Aside0.mk (Nat.le_trans ((Nat.le_trans ((Nat.le_trans ((Nat.le_trans ((Nat.le_trans (hm197.out) hu202.out.size)) hu206.out.size)) hu209.out.size)) (Nat.le_of_eq hs211.out.size.symm))) hu217.out.size)
         have hm221 := Aside0.mk (Nat.le_trans ((Nat.le_trans ((Nat.le_trans ((Nat.le_trans ((Nat.le_trans ((Nat.le_trans ((Nat.le_trans (Nat.le_refl _) hz35.out)) hu194.out.size)) hu202.out.size)) hu206.out.size)) hu209.out.size)) (Nat.le_of_eq hs211.out.size.symm))) hu217.out.size)
         by_cases c218 : (t214) = true
         ·
          rw [if_pos c218] at H
          subst c218
          replace H := Option.bind_eq_some_iff.mp H
          obtain ⟨t222, A223, H⟩ := H
          replace A223 := Aside0.mk A223
          try dsimp only at H
          replace H := Option.bind_eq_some_iff.mp H
          obtain ⟨t226, A227, H⟩ := H
          replace A227 := Aside0.mk A227
          try dsimp only at H
          refine wpList_step (fun Ko hKo => ?_)
          go_simp
          refine hKo _ _ ?_
          clear hKo Ko
          try simp only [Act.put, nm1, nm2, nm3, i64_w]
          have cl0 := (hb212.up hu217.out).cell (o := 0) rfl
          have cl1 := (hb212.up hu217.out).cell (o := 1) rfl
          have cl2 := (hb212.up hu217.out).cell (o := 2) rfl
          have cl3 := (hb212.up hu217.out).cell (o := 3) rfl
          have cl4 := (hb212.up hu217.out).cell (o := 4) rfl
          have cl5 := (hb212.up hu217.out).cell (o := 5) rfl
          refine wpList_step (fun Ko hKo => ?_)
          go_simp
          refine hKo _ _ ?_
          clear hKo Ko
          clear cl0 cl1 cl2 cl3 cl4 cl5
          try simp only [Act.put, nm1, nm2, nm3, i64_w]
          refine step_call rfl (by first | (go_simp; done) | (go_simp; rfl)) (spec_l07Sign.calls K a0 x10 t199 x29 t203 0 0 t222 w216  A223.out) ?_
          rintro e w224 ⟨rfl, hu⟩
          have hu225 := Aside0.mk hu
          clear hu
          refine ⟨_, rfl, ?_⟩
          simp only [Act.put, nm1, nm2, nm3, i64_w]
          refine wpList_step (fun Ko hKo => ?_)
          go_simp
          refine hKo _ _ ?_
          clear hKo Ko
          try simp only [Act.put, nm1, nm2, nm3, i64_w]
          refine wpList_step (fun Ko hKo => ?_)
          go_simp
          refine hKo _ _ ?_
          clear hKo Ko
          try simp only [Act.put, nm1, nm2, nm3, i64_w]
          refine step_call rfl (by first | (go_simp; done) | (go_simp; rfl)) (spec_l01Mod.calls K a2 a0 t226 w224  A227.out) ?_
          rintro e w228 ⟨rfl, hu⟩
          have hu229 := Aside0.mk hu
          clear hu
          refine ⟨_, rfl, ?_⟩
          simp only [Act.put, nm1, nm2, nm3, i64_w]
          refine wpList_step (fun Ko hKo => ?_)
          go_simp
          refine hKo _ _ ?_
          clear hKo Ko
          try simp only [Act.put, nm1, nm2, nm3, i64_w]
          refine wpList_plain rfl (fun Ko hKo => ?_)
          go_simp
          refine hKo _ _ ?_
          clear hKo Ko
          try simp only [Act.put, nm1, nm2, nm3, i64_w]
          refine wpList_nil ?_
          (try simp only [Exit.then, Exit.inBlock, ↓reduceIte, Nat.reduceEqDiff])
          refine hK213 _ _ ?_
          by_cases c230 : (t222 == t226) = true
          ·
           rw [if_pos c230] at H
           have c230n : (t222 != t226) = false := by rw [bne, c230]; rfl
           replace H := Option.bind_eq_some_iff.mp H
           obtain ⟨t231, A234, H⟩ := H
           replace A234 := Aside0.mk A234
           try dsimp only at H
           have HL237 := Aside0.mk H
           clear H
           try simp only [c230, c230n, Bool.not_true, Bool.not_false]
           refine wp_cond_true rfl ?_
           refine wp_region_lit ?_
           refine wpList_plain rfl (fun Ko hKo => ?_)
           go_simp
           refine hKo _ _ ?_
           clear hKo Ko
           try simp only [Act.put, nm1, nm2, nm3, i64_w]
           have cl0 := (hb212.up ((hu217.out.trans hu225.out).trans hu229.out)).cell (o := 0) rfl
           have cl1 := (hb212.up ((hu217.out.trans hu225.out).trans hu229.out)).cell (o := 1) rfl
           have cl2 := (hb212.up ((hu217.out.trans hu225.out).trans hu229.out)).cell (o := 2) rfl
           have cl3 := (hb212.up ((hu217.out.trans hu225.out).trans hu229.out)).cell (o := 3) rfl
           have cl4 := (hb212.up ((hu217.out.trans hu225.out).trans hu229.out)).cell (o := 4) rfl
           have cl5 := (hb212.up ((hu217.out.trans hu225.out).trans hu229.out)).cell (o := 5) rfl
           refine wpList_plain rfl (fun Ko hKo => ?_)
           go_simp
           refine hKo _ _ ?_
           clear hKo Ko
           clear cl0 cl1 cl2 cl3 cl4 cl5
           try simp only [Act.put, nm1, nm2, nm3, i64_w]
           refine step_call (wanted_none rfl) (by first | (go_simp; done) | (go_simp; rfl)) (spec_l07Put.calls K P31 q32 x30 x10 t199 x29 t203 0 0 t231 w228 ((h37.up (((((((hu194.out.trans hu202.out).trans hu206.out).trans hu209.out).sto (Nat.le_trans ((Nat.le_trans ((Nat.le_trans (hu194.out.size) hu202.out.size)) hu206.out.size)) lbb207.out) hs211.out).trans hu217.out).trans hu225.out).trans hu229.out)).rd) (Own.cap (h37.up (((((((hu194.out.trans hu202.out).trans hu206.out).trans hu209.out).sto (Nat.le_trans ((Nat.le_trans ((Nat.le_trans (hu194.out.size) hu202.out.size)) hu206.out.size)) lbb207.out) hs211.out).trans hu217.out).trans hu225.out).trans hu229.out))) A234.out) ?_
           rintro e w235 ⟨P232, q233, rfl, ht231, hu⟩
           have hu236 := Aside0.mk hu
           clear hu
           refine ⟨_, rfl, ?_⟩
           simp only [Act.put, nm1, nm2, nm3, i64_w]
           refine wpList_plain rfl (fun Ko hKo => ?_)
           go_simp
           refine hKo _ _ ?_
           clear hKo Ko
           try simp only [Act.put, nm1, nm2, nm3, i64_w]
           refine wpList_nil ?_
           (try simp only [Exit.then, Exit.inBlock, ↓reduceIte, Nat.reduceEqDiff])
           refine hK46 _ _ ?_
           refine wp_region_lit ?_
           refine wpList_plain rfl (fun Ko hKo => ?_)
           go_simp
           refine hKo _ _ ?_
           clear hKo Ko
           try simp only [Act.put, nm1, nm2, nm3, i64_w]
           refine wpList_plain rfl (fun Ko hKo => ?_)
           go_simp
           refine hKo _ _ ?_
           clear hKo Ko
           try simp only [Act.put, nm1, nm2, nm3, i64_w]
           refine wpList_plain rfl (fun Ko hKo => ?_)
           go_simp
           refine hKo _ _ ?_
           clear hKo Ko
           try simp only [Act.put, nm1, nm2, nm3, i64_w]
           refine wpList_nil ?_
           (try simp only [Exit.then, Exit.inBlock, ↓reduceIte, Nat.reduceEqDiff])
           refine hK42 _ _ ?_
           go_roundg k38
           case measure => exact Nat.lt_succ_self _
           case rel => exact ⟨wrap64 (x29 + 1), t231, P232, q233, (by first | rfl | simp), (by first | rfl | simp), HL237, ⟨by have := hk20.out; have := hk39.out; omega⟩, ⟨(((hm219.out.trans hu225.out).trans hu229.out).trans hu236.out)⟩, ⟨(Nat.le_trans ((Nat.le_trans ((Nat.le_trans (hm221.out) hu225.out.size)) hu229.out.size)) hu236.out.size)⟩, (ht231.lower ((Nat.le_trans ((Nat.le_trans (hm220.out) hu225.out.size)) hu229.out.size)))⟩
          ·
           rw [if_neg c230] at H
           replace c230 := Bool.eq_false_iff.mpr c230
           have c230n : (t222 != t226) = true := by rw [bne, c230]; rfl
           have c230p : ¬ t222 = t226 := fun e => by simp [e] at c230
           have HL238 := Aside0.mk H
           clear H
           try simp only [c230, c230n, Bool.not_true, Bool.not_false]
           refine wp_cond_false rfl ?_
           refine wp_skip ?_
           (try simp only [Exit.then, Exit.inBlock, ↓reduceIte, Nat.reduceEqDiff])
           refine hK46 _ _ ?_
           refine wp_region_lit ?_
           refine wpList_plain rfl (fun Ko hKo => ?_)
           go_simp
           refine hKo _ _ ?_
           clear hKo Ko
           try simp only [Act.put, nm1, nm2, nm3, i64_w]
           refine wpList_plain rfl (fun Ko hKo => ?_)
           go_simp
           refine hKo _ _ ?_
           clear hKo Ko
           try simp only [Act.put, nm1, nm2, nm3, i64_w]
           refine wpList_plain rfl (fun Ko hKo => ?_)
           go_simp
           refine hKo _ _ ?_
           clear hKo Ko
           try simp only [Act.put, nm1, nm2, nm3, i64_w]
           refine wpList_nil ?_
           (try simp only [Exit.then, Exit.inBlock, ↓reduceIte, Nat.reduceEqDiff])
           refine hK42 _ _ ?_
           go_roundg k38
           case measure => exact Nat.lt_succ_self _
           case rel => exact ⟨wrap64 (x29 + 1), x30, P31, q32, (by first | rfl | simp), (by first | rfl | simp), HL238, ⟨by have := hk20.out; have := hk39.out; omega⟩, ⟨((hm219.out.trans hu225.out).trans hu229.out)⟩, ⟨(Nat.le_trans ((Nat.le_trans (hm221.out) hu225.out.size)) hu229.out.size)⟩, (h37.up (((((((hu194.out.trans hu202.out).trans hu206.out).trans hu209.out).sto (Nat.le_trans ((Nat.le_trans ((Nat.le_trans (hu194.out.size) hu202.out.size)) hu206.out.size)) lbb207.out) hs211.out).trans hu217.out).trans hu225.out).trans hu229.out))⟩
         ·
          rw [if_neg c218] at H
          replace c218 := Bool.eq_false_iff.mpr c218
          subst c218
          have HL239 := Aside0.mk H
          clear H
          refine step_no rfl ?_
          simp only [Act.put, nm1, nm2, nm3, i64_w]
          refine step_no rfl ?_
          simp only [Act.put, nm1, nm2, nm3, i64_w]
          refine step_no rfl ?_
          simp only [Act.put, nm1, nm2, nm3, i64_w]
          refine step_no rfl ?_
          simp only [Act.put, nm1, nm2, nm3, i64_w]
          refine step_no rfl ?_
          simp only [Act.put, nm1, nm2, nm3, i64_w]
          refine step_no rfl ?_
          simp only [Act.put, nm1, nm2, nm3, i64_w]
          refine step_no rfl ?_
          simp only [Act.put, nm1, nm2, nm3, i64_w]
          refine wpList_plain rfl (fun Ko hKo => ?_)
          go_simp
          refine hKo _ _ ?_
          clear hKo Ko
          try simp only [Act.put, nm1, nm2, nm3, i64_w]
          refine wpList_nil ?_
          (try simp only [Exit.then, Exit.inBlock, ↓reduceIte, Nat.reduceEqDiff])
          refine hK213 _ _ ?_
          refine wp_cond_false rfl ?_
          refine wp_skip ?_
          (try simp only [Exit.then, Exit.inBlock, ↓reduceIte, Nat.reduceEqDiff])
          refine hK46 _ _ ?_
          refine wp_region_lit ?_
          refine wpList_plain rfl (fun Ko hKo => ?_)
          go_simp
          refine hKo _ _ ?_
          clear hKo Ko
          try simp only [Act.put, nm1, nm2, nm3, i64_w]
          refine wpList_plain rfl (fun Ko hKo => ?_)
          go_simp
          refine hKo _ _ ?_
          clear hKo Ko
          try simp only [Act.put, nm1, nm2, nm3, i64_w]
          refine wpList_plain rfl (fun Ko hKo => ?_)
          go_simp
          refine hKo _ _ ?_
          clear hKo Ko
          try simp only [Act.put, nm1, nm2, nm3, i64_w]
          refine wpList_nil ?_
          (try simp only [Exit.then, Exit.inBlock, ↓reduceIte, Nat.reduceEqDiff])
          refine hK42 _ _ ?_
          go_roundg k38
          case measure => exact Nat.lt_succ_self _
          case rel => exact ⟨wrap64 (x29 + 1), x30, P31, q32, (by first | rfl | simp), (by first | rfl | simp), HL239, ⟨by have := hk20.out; have := hk39.out; omega⟩, ⟨hm219.out⟩, ⟨hm221.out⟩, (h37.up (((((hu194.out.trans hu202.out).trans hu206.out).trans hu209.out).sto (Nat.le_trans ((Nat.le_trans ((Nat.le_trans (hu194.out.size) hu202.out.size)) hu206.out.size)) lbb207.out) hs211.out).trans hu217.out))⟩
        ·
         rw [if_neg c196] at H
         replace c196 := Bool.eq_false_iff.mpr c196
         have c196n : (x29 != 0) = true := by rw [bne, c196]; rfl
         have c196p : ¬ x29 = 0 := fun e => by simp [e] at c196
         replace H := Option.bind_eq_some_iff.mp H
         obtain ⟨t240, A241, H⟩ := H
         replace A241 := Aside0.mk A241
         try dsimp only at H
         replace H := Option.bind_eq_some_iff.mp H
         obtain ⟨t245, A246, H⟩ := H
         replace A246 := Aside0.mk A246
         try dsimp only at H
         replace H := Option.bind_eq_some_iff.mp H
         obtain ⟨t249, A250, H⟩ := H
         replace A250 := Aside0.mk A250
         try dsimp only at H
         replace H := Option.bind_eq_some_iff.mp H
         obtain ⟨t260, A261, H⟩ := H
         replace A261 := Aside0.mk A261
         try dsimp only at H
         try simp only [c196, c196n, Bool.not_true, Bool.not_false]
         refine wp_cond_true rfl ?_
         refine wp_region_lit ?_
         refine wpList_plain rfl (fun Ko hKo => ?_)
         go_simp
         refine hKo _ _ ?_
         clear hKo Ko
         try simp only [Act.put, nm1, nm2, nm3, i64_w]
         refine wpList_plain rfl (fun Ko hKo => ?_)
         go_simp
         refine hKo _ _ ?_
         clear hKo Ko
         try simp only [Act.put, nm1, nm2, nm3, i64_w]
         refine step_call (wanted_none rfl) (by first | (go_simp; done) | (go_simp; rfl)) (spec_l01Inverse.calls K x29 a0 t240 w193  A241.out) ?_
         rintro e w242 ⟨rfl, hu⟩
         have hu243 := Aside0.mk hu
         clear hu
         refine ⟨_, rfl, ?_⟩
         simp only [Act.put, nm1, nm2, nm3, i64_w]
         refine wpList_plain rfl (fun Ko hKo => ?_)
         go_simp
         refine hKo _ _ ?_
         clear hKo Ko
         try simp only [Act.put, nm1, nm2, nm3, i64_w]
         refine wpList_nil ?_
         (try simp only [Exit.then, Exit.inBlock, ↓reduceIte, Nat.reduceEqDiff])
         refine hK48 _ _ ?_
         refine wp_seq_k (fun K244 hK244 => ?_)
         refine wp_region_lit ?_
         refine wpList_plain rfl (fun Ko hKo => ?_)
         go_simp
         refine hKo _ _ ?_
         clear hKo Ko
         try simp only [Act.put, nm1, nm2, nm3, i64_w]
         refine wpList_plain rfl (fun Ko hKo => ?_)
         go_simp
         refine hKo _ _ ?_
         clear hKo Ko
         try simp only [Act.put, nm1, nm2, nm3, i64_w]
         refine wpList_plain rfl (fun Ko hKo => ?_)
         go_simp
         refine hKo _ _ ?_
         clear hKo Ko
         try simp only [Act.put, nm1, nm2, nm3, i64_w]
         refine step_call (wanted_none rfl) (by first | (go_simp; done) | (go_simp; rfl)) (spec_l01Mod.calls K t240 a0 t245 w242  A246.out) ?_
         rintro e w247 ⟨rfl, hu⟩
         have hu248 := Aside0.mk hu
         clear hu
         refine ⟨_, rfl, ?_⟩
         simp only [Act.put, nm1, nm2, nm3, i64_w]
         refine wpList_plain rfl (fun Ko hKo => ?_)
         go_simp
         refine hKo _ _ ?_
         clear hKo Ko
         try simp only [Act.put, nm1, nm2, nm3, i64_w]
         refine wpList_plain rfl (fun Ko hKo => ?_)
         go_simp
         refine hKo _ _ ?_
         clear hKo Ko
         try simp only [Act.put, nm1, nm2, nm3, i64_w]
         refine wpList_plain rfl (fun Ko hKo => ?_)
         go_simp
         refine hKo _ _ ?_
         clear hKo Ko
         try simp only [Act.put, nm1, nm2, nm3, i64_w]
         refine step_call (wanted_none rfl) (by first | (go_simp; done) | (go_simp; rfl)) (spec_l01Mod.calls K t191 a0 t249 w247  A250.out) ?_
         rintro e w251 ⟨rfl, hu⟩
         have hu252 := Aside0.mk hu
         clear hu
         refine ⟨_, rfl, ?_⟩
         simp only [Act.put, nm1, nm2, nm3, i64_w]
         refine wpList_plain rfl (fun Ko hKo => ?_)
         go_simp
         refine hKo _ _ ?_
         clear hKo Ko
         try simp only [Act.put, nm1, nm2, nm3, i64_w]
         refine wpList_plain rfl (fun Ko hKo => ?_)
         go_simp
         refine hKo _ _ ?_
         clear hKo Ko
         try simp only [Act.put, nm1, nm2, nm3, i64_w]
         refine step_new (cs := [.int .i64 0, .int .i64 0, .int .i64 0, .int .i64 0, .int .i64 0, .int .i64 0]) (T := 30) (f := fun b => .pointer (some ⟨b, 0, none⟩)) rfl (by first | (go_simp; done) | (go_simp; rfl)) ?_
         intro b253 w254 hu lb hb253
         simp only [Act.put, nm1, nm2, nm3, i64_w]
         have lbb253 := Aside0.mk lb
         have ltb253 := Aside0.mk hb253.lt
         clear lb
         have hu255 := Aside0.mk hu
         clear hu
         have hB0 := hb253
         have cl0 := hB0.cell (o := 0) rfl
         have fr0 := hB0.free 0
         have cl1 := hB0.cell (o := 1) rfl
         have fr1 := hB0.free 1
         have cl2 := hB0.cell (o := 2) rfl
         have fr2 := hB0.free 2
         have cl3 := hB0.cell (o := 3) rfl
         have fr3 := hB0.free 3
         have cl4 := hB0.cell (o := 4) rfl
         have fr4 := hB0.free 4
         have cl5 := hB0.cell (o := 5) rfl
         have fr5 := hB0.free 5
         refine step_store (b := b253) (cs' := [.int .i64 x10, .int .i64 t245, .int .i64 x29, .int .i64 t249, .int .i64 0, .int .i64 0]) (T := 30) (W' := ((((((w254.setCell ⟨b253, 0, none⟩ (.int .i64 x10)).setCell ⟨b253, 1, none⟩ (.int .i64 t245)).setCell ⟨b253, 2, none⟩ (.int .i64 x29)).setCell ⟨b253, 3, none⟩ (.int .i64 t249)).setCell ⟨b253, 4, none⟩ (.int .i64 0)).setCell ⟨b253, 5, none⟩ (.int .i64 0))) rfl rfl (by first | (go_simp; done) | (go_simp; rfl)) (((((((Sto.refl _ _).setCell 0 _).setCell 1 _).setCell 2 _).setCell 3 _).setCell 4 _).setCell 5 _) (((((((hB0).setCell 0 _).setCell 1 _).setCell 2 _).setCell 3 _).setCell 4 _).setCell 5 _) ?_
         clear hB0 cl0 fr0 cl1 fr1 cl2 fr2 cl3 fr3 cl4 fr4 cl5 fr5
         intro w256 hs hb258
         have hs257 := Aside0.mk hs
         clear hs
         refine wpList_nil ?_
         (try simp only [Exit.then, Exit.inBlock, ↓reduceIte, Nat.reduceEqDiff])
         refine hK244 _ _ ?_
         refine wp_seq_k (fun K259 hK259 => ?_)
         refine wp_region_lit ?_
         refine wpList_plain rfl (fun Ko hKo => ?_)
         go_simp
         refine hKo _ _ ?_
         clear hKo Ko
         try simp only [Act.put, nm1, nm2, nm3, i64_w]
         refine wpList_plain rfl (fun Ko hKo => ?_)
         go_simp
         refine hKo _ _ ?_
         clear hKo Ko
         try simp only [Act.put, nm1, nm2, nm3, i64_w]
         have cl0 := hb258.cell (o := 0) rfl
         have cl1 := hb258.cell (o := 1) rfl
         have cl2 := hb258.cell (o := 2) rfl
         have cl3 := hb258.cell (o := 3) rfl
         have cl4 := hb258.cell (o := 4) rfl
         have cl5 := hb258.cell (o := 5) rfl
         refine wpList_plain rfl (fun Ko hKo => ?_)
         go_simp
         refine hKo _ _ ?_
         clear hKo Ko
         clear cl0 cl1 cl2 cl3 cl4 cl5
         try simp only [Act.put, nm1, nm2, nm3, i64_w]
         refine step_call (wanted_none rfl) (by first | (go_simp; done) | (go_simp; rfl)) (spec_l07Good.calls K a0 a1 x10 t245 x29 t249 0 0 t260 w256  A261.out) ?_
         rintro e w262 ⟨rfl, hu⟩
         have hu263 := Aside0.mk hu
         clear hu
         refine ⟨_, rfl, ?_⟩
         simp only [Act.put, nm1, nm2, nm3, i64_w]
         refine wpList_plain rfl (fun Ko hKo => ?_)
         go_simp
         refine hKo _ _ ?_
         clear hKo Ko
         try simp only [Act.put, nm1, nm2, nm3, i64_w]
         have hm265 := Aside0.mk (((((((hu34.out.trans hu194.out).trans hu243.out).trans hu248.out).trans hu252.out).trans hu255.out).sto (Nat.le_trans ((Nat.le_trans ((Nat.le_trans ((Nat.le_trans (hm197.out) hu243.out.size)) hu248.out.size)) hu252.out.size)) lbb253.out) hs257.out).trans hu263.out)
         have hm266 := Aside0.mk (Nat.le_trans ((Nat.le_trans ((Nat.le_trans ((Nat.le_trans ((Nat.le_trans ((Nat.le_trans (hm197.out) hu243.out.size)) hu248.out.size)) hu252.out.size)) hu255.out.size)) (Nat.le_of_eq hs257.out.size.symm))) hu263.out.size)
         have hm267 := Aside0.mk (Nat.le_trans ((Nat.le_trans ((Nat.le_trans ((Nat.le_trans ((Nat.le_trans ((Nat.le_trans ((Nat.le_trans ((Nat.le_trans (Nat.le_refl _) hz35.out)) hu194.out.size)) hu243.out.size)) hu248.out.size)) hu252.out.size)) hu255.out.size)) (Nat.le_of_eq hs257.out.size.symm))) hu263.out.size)
         by_cases c264 : (t260) = true
         ·
          rw [if_pos c264] at H
          subst c264
          replace H := Option.bind_eq_some_iff.mp H
          obtain ⟨t268, A269, H⟩ := H
          replace A269 := Aside0.mk A269
          try dsimp only at H
          replace H := Option.bind_eq_some_iff.mp H
          obtain ⟨t272, A273, H⟩ := H
          replace A273 := Aside0.mk A273
          try dsimp only at H
          refine wpList_step (fun Ko hKo => ?_)
          go_simp
          refine hKo _ _ ?_
          clear hKo Ko
          try simp only [Act.put, nm1, nm2, nm3, i64_w]
          have cl0 := (hb258.up hu263.out).cell (o := 0) rfl
          have cl1 := (hb258.up hu263.out).cell (o := 1) rfl
          have cl2 := (hb258.up hu263.out).cell (o := 2) rfl
          have cl3 := (hb258.up hu263.out).cell (o := 3) rfl
          have cl4 := (hb258.up hu263.out).cell (o := 4) rfl
          have cl5 := (hb258.up hu263.out).cell (o := 5) rfl
          refine wpList_step (fun Ko hKo => ?_)
          go_simp
          refine hKo _ _ ?_
          clear hKo Ko
          clear cl0 cl1 cl2 cl3 cl4 cl5
          try simp only [Act.put, nm1, nm2, nm3, i64_w]
          refine step_call rfl (by first | (go_simp; done) | (go_simp; rfl)) (spec_l07Sign.calls K a0 x10 t245 x29 t249 0 0 t268 w262  A269.out) ?_
          rintro e w270 ⟨rfl, hu⟩
          have hu271 := Aside0.mk hu
          clear hu
          refine ⟨_, rfl, ?_⟩
          simp only [Act.put, nm1, nm2, nm3, i64_w]
          refine wpList_step (fun Ko hKo => ?_)
          go_simp
          refine hKo _ _ ?_
          clear hKo Ko
          try simp only [Act.put, nm1, nm2, nm3, i64_w]
          refine wpList_step (fun Ko hKo => ?_)
          go_simp
          refine hKo _ _ ?_
          clear hKo Ko
          try simp only [Act.put, nm1, nm2, nm3, i64_w]
          refine step_call rfl (by first | (go_simp; done) | (go_simp; rfl)) (spec_l01Mod.calls K a2 a0 t272 w270  A273.out) ?_
          rintro e w274 ⟨rfl, hu⟩
          have hu275 := Aside0.mk hu
          clear hu
          refine ⟨_, rfl, ?_⟩
          simp only [Act.put, nm1, nm2, nm3, i64_w]
          refine wpList_step (fun Ko hKo => ?_)
          go_simp
          refine hKo _ _ ?_
          clear hKo Ko
          try simp only [Act.put, nm1, nm2, nm3, i64_w]
          refine wpList_plain rfl (fun Ko hKo => ?_)
          go_simp
          refine hKo _ _ ?_
          clear hKo Ko
          try simp only [Act.put, nm1, nm2, nm3, i64_w]
          refine wpList_nil ?_
          (try simp only [Exit.then, Exit.inBlock, ↓reduceIte, Nat.reduceEqDiff])
          refine hK259 _ _ ?_
          by_cases c276 : (t268 == t272) = true
          ·
           rw [if_pos c276] at H
           have c276n : (t268 != t272) = false := by rw [bne, c276]; rfl
           replace H := Option.bind_eq_some_iff.mp H
           obtain ⟨t277, A280, H⟩ := H
           replace A280 := Aside0.mk A280
           try dsimp only at H
           have HL283 := Aside0.mk H
           clear H
           try simp only [c276, c276n, Bool.not_true, Bool.not_false]
           refine wp_cond_true rfl ?_
           refine wp_region_lit ?_
           refine wpList_plain rfl (fun Ko hKo => ?_)
           go_simp
           refine hKo _ _ ?_
           clear hKo Ko
           try simp only [Act.put, nm1, nm2, nm3, i64_w]
           have cl0 := (hb258.up ((hu263.out.trans hu271.out).trans hu275.out)).cell (o := 0) rfl
           have cl1 := (hb258.up ((hu263.out.trans hu271.out).trans hu275.out)).cell (o := 1) rfl
           have cl2 := (hb258.up ((hu263.out.trans hu271.out).trans hu275.out)).cell (o := 2) rfl
           have cl3 := (hb258.up ((hu263.out.trans hu271.out).trans hu275.out)).cell (o := 3) rfl
           have cl4 := (hb258.up ((hu263.out.trans hu271.out).trans hu275.out)).cell (o := 4) rfl
           have cl5 := (hb258.up ((hu263.out.trans hu271.out).trans hu275.out)).cell (o := 5) rfl
           refine wpList_plain rfl (fun Ko hKo => ?_)
           go_simp
           refine hKo _ _ ?_
           clear hKo Ko
           clear cl0 cl1 cl2 cl3 cl4 cl5
           try simp only [Act.put, nm1, nm2, nm3, i64_w]
           refine step_call (wanted_none rfl) (by first | (go_simp; done) | (go_simp; rfl)) (spec_l07Put.calls K P31 q32 x30 x10 t245 x29 t249 0 0 t277 w274 ((h37.up ((((((((hu194.out.trans hu243.out).trans hu248.out).trans hu252.out).trans hu255.out).sto (Nat.le_trans ((Nat.le_trans ((Nat.le_trans ((Nat.le_trans (hu194.out.size) hu243.out.size)) hu248.out.size)) hu252.out.size)) lbb253.out) hs257.out).trans hu263.out).trans hu271.out).trans hu275.out)).rd) (Own.cap (h37.up ((((((((hu194.out.trans hu243.out).trans hu248.out).trans hu252.out).trans hu255.out).sto (Nat.le_trans ((Nat.le_trans ((Nat.le_trans ((Nat.le_trans (hu194.out.size) hu243.out.size)) hu248.out.size)) hu252.out.size)) lbb253.out) hs257.out).trans hu263.out).trans hu271.out).trans hu275.out))) A280.out) ?_
           rintro e w281 ⟨P278, q279, rfl, ht277, hu⟩
           have hu282 := Aside0.mk hu
           clear hu
           refine ⟨_, rfl, ?_⟩
           simp only [Act.put, nm1, nm2, nm3, i64_w]
           refine wpList_plain rfl (fun Ko hKo => ?_)
           go_simp
           refine hKo _ _ ?_
           clear hKo Ko
           try simp only [Act.put, nm1, nm2, nm3, i64_w]
           refine wpList_nil ?_
           (try simp only [Exit.then, Exit.inBlock, ↓reduceIte, Nat.reduceEqDiff])
           refine hK46 _ _ ?_
           refine wp_region_lit ?_
           refine wpList_plain rfl (fun Ko hKo => ?_)
           go_simp
           refine hKo _ _ ?_
           clear hKo Ko
           try simp only [Act.put, nm1, nm2, nm3, i64_w]
           refine wpList_plain rfl (fun Ko hKo => ?_)
           go_simp
           refine hKo _ _ ?_
           clear hKo Ko
           try simp only [Act.put, nm1, nm2, nm3, i64_w]
           refine wpList_plain rfl (fun Ko hKo => ?_)
           go_simp
           refine hKo _ _ ?_
           clear hKo Ko
           try simp only [Act.put, nm1, nm2, nm3, i64_w]
           refine wpList_nil ?_
           (try simp only [Exit.then, Exit.inBlock, ↓reduceIte, Nat.reduceEqDiff])
           refine hK42 _ _ ?_
           go_roundg k38
           case measure => exact Nat.lt_succ_self _
           case rel => exact ⟨wrap64 (x29 + 1), t277, P278, q279, (by first | rfl | simp), (by first | rfl | simp), HL283, ⟨by have := hk20.out; have := hk39.out; omega⟩, ⟨(((hm265.out.trans hu271.out).trans hu275.out).trans hu282.out)⟩, ⟨(Nat.le_trans ((Nat.le_trans ((Nat.le_trans (hm267.out) hu271.out.size)) hu275.out.size)) hu282.out.size)⟩, (ht277.lower ((Nat.le_trans ((Nat.le_trans (hm266.out) hu271.out.size)) hu275.out.size)))⟩
          ·
           rw [if_neg c276] at H
           replace c276 := Bool.eq_false_iff.mpr c276
           have c276n : (t268 != t272) = true := by rw [bne, c276]; rfl
           have c276p : ¬ t268 = t272 := fun e => by simp [e] at c276
           have HL284 := Aside0.mk H
           clear H
           try simp only [c276, c276n, Bool.not_true, Bool.not_false]
           refine wp_cond_false rfl ?_
           refine wp_skip ?_
           (try simp only [Exit.then, Exit.inBlock, ↓reduceIte, Nat.reduceEqDiff])
           refine hK46 _ _ ?_
           refine wp_region_lit ?_
           refine wpList_plain rfl (fun Ko hKo => ?_)
           go_simp
           refine hKo _ _ ?_
           clear hKo Ko
           try simp only [Act.put, nm1, nm2, nm3, i64_w]
           refine wpList_plain rfl (fun Ko hKo => ?_)
           go_simp
           refine hKo _ _ ?_
           clear hKo Ko
           try simp only [Act.put, nm1, nm2, nm3, i64_w]
           refine wpList_plain rfl (fun Ko hKo => ?_)
           go_simp
           refine hKo _ _ ?_
           clear hKo Ko
           try simp only [Act.put, nm1, nm2, nm3, i64_w]
           refine wpList_nil ?_
           (try simp only [Exit.then, Exit.inBlock, ↓reduceIte, Nat.reduceEqDiff])
           refine hK42 _ _ ?_
           go_roundg k38
           case measure => exact Nat.lt_succ_self _
           case rel => exact ⟨wrap64 (x29 + 1), x30, P31, q32, (by first | rfl | simp), (by first | rfl | simp), HL284, ⟨by have := hk20.out; have := hk39.out; omega⟩, ⟨((hm265.out.trans hu271.out).trans hu275.out)⟩, ⟨(Nat.le_trans ((Nat.le_trans (hm267.out) hu271.out.size)) hu275.out.size)⟩, (h37.up ((((((((hu194.out.trans hu243.out).trans hu248.out).trans hu252.out).trans hu255.out).sto (Nat.le_trans ((Nat.le_trans ((Nat.le_trans ((Nat.le_trans (hu194.out.size) hu243.out.size)) hu248.out.size)) hu252.out.size)) lbb253.out) hs257.out).trans hu263.out).trans hu271.out).trans hu275.out))⟩
         ·
          rw [if_neg c264] at H
          replace c264 := Bool.eq_false_iff.mpr c264
          subst c264
          have HL285 := Aside0.mk H
          clear H
          refine step_no rfl ?_
          simp only [Act.put, nm1, nm2, nm3, i64_w]
          refine step_no rfl ?_
          simp only [Act.put, nm1, nm2, nm3, i64_w]
          refine step_no rfl ?_
          simp only [Act.put, nm1, nm2, nm3, i64_w]
          refine step_no rfl ?_
          simp only [Act.put, nm1, nm2, nm3, i64_w]
          refine step_no rfl ?_
          simp only [Act.put, nm1, nm2, nm3, i64_w]
          refine step_no rfl ?_
          simp only [Act.put, nm1, nm2, nm3, i64_w]
          refine step_no rfl ?_
          simp only [Act.put, nm1, nm2, nm3, i64_w]
          refine wpList_plain rfl (fun Ko hKo => ?_)
          go_simp
          refine hKo _ _ ?_
          clear hKo Ko
          try simp only [Act.put, nm1, nm2, nm3, i64_w]
          refine wpList_nil ?_
          (try simp only [Exit.then, Exit.inBlock, ↓reduceIte, Nat.reduceEqDiff])
          refine hK259 _ _ ?_
          refine wp_cond_false rfl ?_
          refine wp_skip ?_
          (try simp only [Exit.then, Exit.inBlock, ↓reduceIte, Nat.reduceEqDiff])
          refine hK46 _ _ ?_
          refine wp_region_lit ?_
          refine wpList_plain rfl (fun Ko hKo => ?_)
          go_simp
          refine hKo _ _ ?_
          clear hKo Ko
          try simp only [Act.put, nm1, nm2, nm3, i64_w]
          refine wpList_plain rfl (fun Ko hKo => ?_)
          go_simp
          refine hKo _ _ ?_
          clear hKo Ko
          try simp only [Act.put, nm1, nm2, nm3, i64_w]
          refine wpList_plain rfl (fun Ko hKo => ?_)
          go_simp
          refine hKo _ _ ?_
          clear hKo Ko
          try simp only [Act.put, nm1, nm2, nm3, i64_w]
          refine wpList_nil ?_
          (try simp only [Exit.then, Exit.inBlock, ↓reduceIte, Nat.reduceEqDiff])
          refine hK42 _ _ ?_
          go_roundg k38
          case measure => exact Nat.lt_succ_self _
          case rel => exact ⟨wrap64 (x29 + 1), x30, P31, q32, (by first | rfl | simp), (by first | rfl | simp), HL285, ⟨by have := hk20.out; have := hk39.out; omega⟩, ⟨hm265.out⟩, ⟨hm267.out⟩, (h37.up ((((((hu194.out.trans hu243.out).trans hu248.out).trans hu252.out).trans hu255.out).sto (Nat.le_trans ((Nat.le_trans ((Nat.le_trans ((Nat.le_trans (hu194.out.size) hu243.out.size)) hu248.out.size)) hu252.out.size)) lbb253.out) hs257.out).trans hu263.out))⟩
      ·
       rw [if_neg c95] at H
       replace c95 := Bool.eq_false_iff.mpr c95
       have c95n : (a1 != 2) = true := by rw [bne, c95]; rfl
       have c95p : ¬ a1 = 2 := fun e => by simp [e] at c95
       replace H := Option.bind_eq_some_iff.mp H
       obtain ⟨t287, A288, H⟩ := H
       replace A288 := Aside0.mk A288
       try dsimp only at H
       replace H := Option.bind_eq_some_iff.mp H
       obtain ⟨t291, A292, H⟩ := H
       replace A292 := Aside0.mk A292
       try dsimp only at H
       replace H := Option.bind_eq_some_iff.mp H
       obtain ⟨t302, A303, H⟩ := H
       replace A303 := Aside0.mk A303
       try dsimp only at H
       try simp only [c95, c95n, Bool.not_true, Bool.not_false]
       refine wp_cond_false rfl ?_
       refine wp_skip ?_
       (try simp only [Exit.then, Exit.inBlock, ↓reduceIte, Nat.reduceEqDiff])
       refine hK48 _ _ ?_
       refine wp_seq_k (fun K286 hK286 => ?_)
       refine wp_region_lit ?_
       refine wpList_plain rfl (fun Ko hKo => ?_)
       go_simp
       refine hKo _ _ ?_
       clear hKo Ko
       try simp only [Act.put, nm1, nm2, nm3, i64_w]
       refine wpList_plain rfl (fun Ko hKo => ?_)
       go_simp
       refine hKo _ _ ?_
       clear hKo Ko
       try simp only [Act.put, nm1, nm2, nm3, i64_w]
       refine wpList_plain rfl (fun Ko hKo => ?_)
       go_simp
       refine hKo _ _ ?_
       clear hKo Ko
       try simp only [Act.put, nm1, nm2, nm3, i64_w]
       refine step_call (wanted_none rfl) (by first | (go_simp; done) | (go_simp; rfl)) (spec_l01Mod.calls K (wrap64 (a2 * x29)) a0 t287 w33  A288.out) ?_
       rintro e w289 ⟨rfl, hu⟩
       have hu290 := Aside0.mk hu
       clear hu
       refine ⟨_, rfl, ?_⟩
       simp only [Act.put, nm1, nm2, nm3, i64_w]
       refine wpList_plain rfl (fun Ko hKo => ?_)
       go_simp
       refine hKo _ _ ?_
       clear hKo Ko
       try simp only [Act.put, nm1, nm2, nm3, i64_w]
       refine wpList_plain rfl (fun Ko hKo => ?_)
       go_simp
       refine hKo _ _ ?_
       clear hKo Ko
       try simp only [Act.put, nm1, nm2, nm3, i64_w]
       refine wpList_plain rfl (fun Ko hKo => ?_)
       go_simp
       refine hKo _ _ ?_
       clear hKo Ko
       try simp only [Act.put, nm1, nm2, nm3, i64_w]
       refine step_call (wanted_none rfl) (by first | (go_simp; done) | (go_simp; rfl)) (spec_l01Mod.calls K (wrap64 (a2 * x10)) a0 t291 w289  A292.out) ?_
       rintro e w293 ⟨rfl, hu⟩
       have hu294 := Aside0.mk hu
       clear hu
       refine ⟨_, rfl, ?_⟩
       simp only [Act.put, nm1, nm2, nm3, i64_w]
       refine wpList_plain rfl (fun Ko hKo => ?_)
       go_simp
       refine hKo _ _ ?_
       clear hKo Ko
       try simp only [Act.put, nm1, nm2, nm3, i64_w]
       refine wpList_plain rfl (fun Ko hKo => ?_)
       go_simp
       refine hKo _ _ ?_
       clear hKo Ko
       try simp only [Act.put, nm1, nm2, nm3, i64_w]
       refine step_new (cs := [.int .i64 0, .int .i64 0, .int .i64 0, .int .i64 0, .int .i64 0, .int .i64 0]) (T := 30) (f := fun b => .pointer (some ⟨b, 0, none⟩)) rfl (by first | (go_simp; done) | (go_simp; rfl)) ?_
       intro b295 w296 hu lb hb295
       simp only [Act.put, nm1, nm2, nm3, i64_w]
       have lbb295 := Aside0.mk lb
       have ltb295 := Aside0.mk hb295.lt
       clear lb
       have hu297 := Aside0.mk hu
       clear hu
       have hB0 := hb295
       have cl0 := hB0.cell (o := 0) rfl
       have fr0 := hB0.free 0
       have cl1 := hB0.cell (o := 1) rfl
       have fr1 := hB0.free 1
       have cl2 := hB0.cell (o := 2) rfl
       have fr2 := hB0.free 2
       have cl3 := hB0.cell (o := 3) rfl
       have fr3 := hB0.free 3
       have cl4 := hB0.cell (o := 4) rfl
       have fr4 := hB0.free 4
       have cl5 := hB0.cell (o := 5) rfl
       have fr5 := hB0.free 5
       refine step_store (b := b295) (cs' := [.int .i64 x10, .int .i64 t287, .int .i64 x29, .int .i64 t291, .int .i64 0, .int .i64 0]) (T := 30) (W' := ((((((w296.setCell ⟨b295, 0, none⟩ (.int .i64 x10)).setCell ⟨b295, 1, none⟩ (.int .i64 t287)).setCell ⟨b295, 2, none⟩ (.int .i64 x29)).setCell ⟨b295, 3, none⟩ (.int .i64 t291)).setCell ⟨b295, 4, none⟩ (.int .i64 0)).setCell ⟨b295, 5, none⟩ (.int .i64 0))) rfl rfl (by first | (go_simp; done) | (go_simp; rfl)) (((((((Sto.refl _ _).setCell 0 _).setCell 1 _).setCell 2 _).setCell 3 _).setCell 4 _).setCell 5 _) (((((((hB0).setCell 0 _).setCell 1 _).setCell 2 _).setCell 3 _).setCell 4 _).setCell 5 _) ?_
       clear hB0 cl0 fr0 cl1 fr1 cl2 fr2 cl3 fr3 cl4 fr4 cl5 fr5
       intro w298 hs hb300
       have hs299 := Aside0.mk hs
       clear hs
       refine wpList_nil ?_
       (try simp only [Exit.then, Exit.inBlock, ↓reduceIte, Nat.reduceEqDiff])
       refine hK286 _ _ ?_
       refine wp_seq_k (fun K301 hK301 => ?_)
       refine wp_region_lit ?_
       refine wpList_plain rfl (fun Ko hKo => ?_)
       go_simp
       refine hKo _ _ ?_
       clear hKo Ko
       try simp only [Act.put, nm1, nm2, nm3, i64_w]
       refine wpList_plain rfl (fun Ko hKo => ?_)
       go_simp
       refine hKo _ _ ?_
       clear hKo Ko
       try simp only [Act.put, nm1, nm2, nm3, i64_w]
       have cl0 := hb300.cell (o := 0) rfl
       have cl1 := hb300.cell (o := 1) rfl
       have cl2 := hb300.cell (o := 2) rfl
       have cl3 := hb300.cell (o := 3) rfl
       have cl4 := hb300.cell (o := 4) rfl
       have cl5 := hb300.cell (o := 5) rfl
       refine wpList_plain rfl (fun Ko hKo => ?_)
       go_simp
       refine hKo _ _ ?_
       clear hKo Ko
       clear cl0 cl1 cl2 cl3 cl4 cl5
       try simp only [Act.put, nm1, nm2, nm3, i64_w]
       refine step_call (wanted_none rfl) (by first | (go_simp; done) | (go_simp; rfl)) (spec_l07Good.calls K a0 a1 x10 t287 x29 t291 0 0 t302 w298  A303.out) ?_
       rintro e w304 ⟨rfl, hu⟩
       have hu305 := Aside0.mk hu
       clear hu
       refine ⟨_, rfl, ?_⟩
       simp only [Act.put, nm1, nm2, nm3, i64_w]
       refine wpList_plain rfl (fun Ko hKo => ?_)
       go_simp
       refine hKo _ _ ?_
       clear hKo Ko
       try simp only [Act.put, nm1, nm2, nm3, i64_w]
       have hm307 := Aside0.mk (((((hu34.out.trans hu290.out).trans hu294.out).trans hu297.out).sto (Nat.le_trans ((Nat.le_trans ((Nat.le_trans ((Nat.le_trans ((Nat.le_trans (hu5.out.size) hz16.out)) hz35.out)) hu290.out.size)) hu294.out.size)) lbb295.out) hs299.out).trans hu305.out)
       have hm308 := Aside0.mk (Nat.le_trans ((Nat.le_trans ((Nat.le_trans ((Nat.le_trans ((Nat.le_trans ((Nat.le_trans ((Nat.le_trans (hu5.out.size) hz16.out)) hz35.out)) hu290.out.size)) hu294.out.size)) hu297.out.size)) (Nat.le_of_eq hs299.out.size.symm))) hu305.out.size)
       have hm309 := Aside0.mk (Nat.le_trans ((Nat.le_trans ((Nat.le_trans ((Nat.le_trans ((Nat.le_trans ((Nat.le_trans (Nat.le_refl _) hz35.out)) hu290.out.size)) hu294.out.size)) hu297.out.size)) (Nat.le_of_eq hs299.out.size.symm))) hu305.out.size)
       by_cases c306 : (t302) = true
       ·
        rw [if_pos c306] at H
        subst c306
        replace H := Option.bind_eq_some_iff.mp H
        obtain ⟨t310, A311, H⟩ := H
        replace A311 := Aside0.mk A311
        try dsimp only at H
        replace H := Option.bind_eq_some_iff.mp H
        obtain ⟨t314, A315, H⟩ := H
        replace A315 := Aside0.mk A315
        try dsimp only at H
        refine wpList_step (fun Ko hKo => ?_)
        go_simp
        refine hKo _ _ ?_
        clear hKo Ko
        try simp only [Act.put, nm1, nm2, nm3, i64_w]
        have cl0 := (hb300.up hu305.out).cell (o := 0) rfl
        have cl1 := (hb300.up hu305.out).cell (o := 1) rfl
        have cl2 := (hb300.up hu305.out).cell (o := 2) rfl
        have cl3 := (hb300.up hu305.out).cell (o := 3) rfl
        have cl4 := (hb300.up hu305.out).cell (o := 4) rfl
        have cl5 := (hb300.up hu305.out).cell (o := 5) rfl
        refine wpList_step (fun Ko hKo => ?_)
        go_simp
        refine hKo _ _ ?_
        clear hKo Ko
        clear cl0 cl1 cl2 cl3 cl4 cl5
        try simp only [Act.put, nm1, nm2, nm3, i64_w]
        refine step_call rfl (by first | (go_simp; done) | (go_simp; rfl)) (spec_l07Sign.calls K a0 x10 t287 x29 t291 0 0 t310 w304  A311.out) ?_
        rintro e w312 ⟨rfl, hu⟩
        have hu313 := Aside0.mk hu
        clear hu
        refine ⟨_, rfl, ?_⟩
        simp only [Act.put, nm1, nm2, nm3, i64_w]
        refine wpList_step (fun Ko hKo => ?_)
        go_simp
        refine hKo _ _ ?_
        clear hKo Ko
        try simp only [Act.put, nm1, nm2, nm3, i64_w]
        refine wpList_step (fun Ko hKo => ?_)
        go_simp
        refine hKo _ _ ?_
        clear hKo Ko
        try simp only [Act.put, nm1, nm2, nm3, i64_w]
        refine step_call rfl (by first | (go_simp; done) | (go_simp; rfl)) (spec_l01Mod.calls K a2 a0 t314 w312  A315.out) ?_
        rintro e w316 ⟨rfl, hu⟩
        have hu317 := Aside0.mk hu
        clear hu
        refine ⟨_, rfl, ?_⟩
        simp only [Act.put, nm1, nm2, nm3, i64_w]
        refine wpList_step (fun Ko hKo => ?_)
        go_simp
        refine hKo _ _ ?_
        clear hKo Ko
        try simp only [Act.put, nm1, nm2, nm3, i64_w]
        refine wpList_plain rfl (fun Ko hKo => ?_)
        go_simp
        refine hKo _ _ ?_
        clear hKo Ko
        try simp only [Act.put, nm1, nm2, nm3, i64_w]
        refine wpList_nil ?_
        (try simp only [Exit.then, Exit.inBlock, ↓reduceIte, Nat.reduceEqDiff])
        refine hK301 _ _ ?_
        by_cases c318 : (t310 == t314) = true
        ·
         rw [if_pos c318] at H
         have c318n : (t310 != t314) = false := by rw [bne, c318]; rfl
         replace H := Option.bind_eq_some_iff.mp H
         obtain ⟨t319, A322, H⟩ := H
         replace A322 := Aside0.mk A322
         try dsimp only at H
         have HL325 := Aside0.mk H
         clear H
         try simp only [c318, c318n, Bool.not_true, Bool.not_false]
         refine wp_cond_true rfl ?_
         refine wp_region_lit ?_
         refine wpList_plain rfl (fun Ko hKo => ?_)
         go_simp
         refine hKo _ _ ?_
         clear hKo Ko
         try simp only [Act.put, nm1, nm2, nm3, i64_w]
         have cl0 := (hb300.up ((hu305.out.trans hu313.out).trans hu317.out)).cell (o := 0) rfl
         have cl1 := (hb300.up ((hu305.out.trans hu313.out).trans hu317.out)).cell (o := 1) rfl
         have cl2 := (hb300.up ((hu305.out.trans hu313.out).trans hu317.out)).cell (o := 2) rfl
         have cl3 := (hb300.up ((hu305.out.trans hu313.out).trans hu317.out)).cell (o := 3) rfl
         have cl4 := (hb300.up ((hu305.out.trans hu313.out).trans hu317.out)).cell (o := 4) rfl
         have cl5 := (hb300.up ((hu305.out.trans hu313.out).trans hu317.out)).cell (o := 5) rfl
         refine wpList_plain rfl (fun Ko hKo => ?_)
         go_simp
         refine hKo _ _ ?_
         clear hKo Ko
         clear cl0 cl1 cl2 cl3 cl4 cl5
         try simp only [Act.put, nm1, nm2, nm3, i64_w]
         refine step_call (wanted_none rfl) (by first | (go_simp; done) | (go_simp; rfl)) (spec_l07Put.calls K P31 q32 x30 x10 t287 x29 t291 0 0 t319 w316 ((h37.up ((((((hu290.out.trans hu294.out).trans hu297.out).sto (Nat.le_trans ((Nat.le_trans (hu290.out.size) hu294.out.size)) lbb295.out) hs299.out).trans hu305.out).trans hu313.out).trans hu317.out)).rd) (Own.cap (h37.up ((((((hu290.out.trans hu294.out).trans hu297.out).sto (Nat.le_trans ((Nat.le_trans (hu290.out.size) hu294.out.size)) lbb295.out) hs299.out).trans hu305.out).trans hu313.out).trans hu317.out))) A322.out) ?_
         rintro e w323 ⟨P320, q321, rfl, ht319, hu⟩
         have hu324 := Aside0.mk hu
         clear hu
         refine ⟨_, rfl, ?_⟩
         simp only [Act.put, nm1, nm2, nm3, i64_w]
         refine wpList_plain rfl (fun Ko hKo => ?_)
         go_simp
         refine hKo _ _ ?_
         clear hKo Ko
         try simp only [Act.put, nm1, nm2, nm3, i64_w]
         refine wpList_nil ?_
         (try simp only [Exit.then, Exit.inBlock, ↓reduceIte, Nat.reduceEqDiff])
         refine hK46 _ _ ?_
         refine wp_region_lit ?_
         refine wpList_plain rfl (fun Ko hKo => ?_)
         go_simp
         refine hKo _ _ ?_
         clear hKo Ko
         try simp only [Act.put, nm1, nm2, nm3, i64_w]
         refine wpList_plain rfl (fun Ko hKo => ?_)
         go_simp
         refine hKo _ _ ?_
         clear hKo Ko
         try simp only [Act.put, nm1, nm2, nm3, i64_w]
         refine wpList_plain rfl (fun Ko hKo => ?_)
         go_simp
         refine hKo _ _ ?_
         clear hKo Ko
         try simp only [Act.put, nm1, nm2, nm3, i64_w]
         refine wpList_nil ?_
         (try simp only [Exit.then, Exit.inBlock, ↓reduceIte, Nat.reduceEqDiff])
         refine hK42 _ _ ?_
         go_roundg k38
         case measure => exact Nat.lt_succ_self _
         case rel => exact ⟨wrap64 (x29 + 1), t319, P320, q321, (by first | rfl | simp), (by first | rfl | simp), HL325, ⟨by have := hk20.out; have := hk39.out; omega⟩, ⟨(((hm307.out.trans hu313.out).trans hu317.out).trans hu324.out)⟩, ⟨(Nat.le_trans ((Nat.le_trans ((Nat.le_trans (hm309.out) hu313.out.size)) hu317.out.size)) hu324.out.size)⟩, (ht319.lower ((Nat.le_trans ((Nat.le_trans (hm308.out) hu313.out.size)) hu317.out.size)))⟩
        ·
         rw [if_neg c318] at H
         replace c318 := Bool.eq_false_iff.mpr c318
         have c318n : (t310 != t314) = true := by rw [bne, c318]; rfl
         have c318p : ¬ t310 = t314 := fun e => by simp [e] at c318
         have HL326 := Aside0.mk H
         clear H
         try simp only [c318, c318n, Bool.not_true, Bool.not_false]
         refine wp_cond_false rfl ?_
         refine wp_skip ?_
         (try simp only [Exit.then, Exit.inBlock, ↓reduceIte, Nat.reduceEqDiff])
         refine hK46 _ _ ?_
         refine wp_region_lit ?_
         refine wpList_plain rfl (fun Ko hKo => ?_)
         go_simp
         refine hKo _ _ ?_
         clear hKo Ko
         try simp only [Act.put, nm1, nm2, nm3, i64_w]
         refine wpList_plain rfl (fun Ko hKo => ?_)
         go_simp
         refine hKo _ _ ?_
         clear hKo Ko
         try simp only [Act.put, nm1, nm2, nm3, i64_w]
         refine wpList_plain rfl (fun Ko hKo => ?_)
         go_simp
         refine hKo _ _ ?_
         clear hKo Ko
         try simp only [Act.put, nm1, nm2, nm3, i64_w]
         refine wpList_nil ?_
         (try simp only [Exit.then, Exit.inBlock, ↓reduceIte, Nat.reduceEqDiff])
         refine hK42 _ _ ?_
         go_roundg k38
         case measure => exact Nat.lt_succ_self _
         case rel => exact ⟨wrap64 (x29 + 1), x30, P31, q32, (by first | rfl | simp), (by first | rfl | simp), HL326, ⟨by have := hk20.out; have := hk39.out; omega⟩, ⟨((hm307.out.trans hu313.out).trans hu317.out)⟩, ⟨(Nat.le_trans ((Nat.le_trans (hm309.out) hu313.out.size)) hu317.out.size)⟩, (h37.up ((((((hu290.out.trans hu294.out).trans hu297.out).sto (Nat.le_trans ((Nat.le_trans (hu290.out.size) hu294.out.size)) lbb295.out) hs299.out).trans hu305.out).trans hu313.out).trans hu317.out))⟩
       ·
        rw [if_neg c306] at H
        replace c306 := Bool.eq_false_iff.mpr c306
        subst c306
        have HL327 := Aside0.mk H
        clear H
        refine step_no rfl ?_
        simp only [Act.put, nm1, nm2, nm3, i64_w]
        refine step_no rfl ?_
        simp only [Act.put, nm1, nm2, nm3, i64_w]
        refine step_no rfl ?_
        simp only [Act.put, nm1, nm2, nm3, i64_w]
        refine step_no rfl ?_
        simp only [Act.put, nm1, nm2, nm3, i64_w]
        refine step_no rfl ?_
        simp only [Act.put, nm1, nm2, nm3, i64_w]
        refine step_no rfl ?_
        simp only [Act.put, nm1, nm2, nm3, i64_w]
        refine step_no rfl ?_
        simp only [Act.put, nm1, nm2, nm3, i64_w]
        refine wpList_plain rfl (fun Ko hKo => ?_)
        go_simp
        refine hKo _ _ ?_
        clear hKo Ko
        try simp only [Act.put, nm1, nm2, nm3, i64_w]
        refine wpList_nil ?_
        (try simp only [Exit.then, Exit.inBlock, ↓reduceIte, Nat.reduceEqDiff])
        refine hK301 _ _ ?_
        refine wp_cond_false rfl ?_
        refine wp_skip ?_
        (try simp only [Exit.then, Exit.inBlock, ↓reduceIte, Nat.reduceEqDiff])
        refine hK46 _ _ ?_
        refine wp_region_lit ?_
        refine wpList_plain rfl (fun Ko hKo => ?_)
        go_simp
        refine hKo _ _ ?_
        clear hKo Ko
        try simp only [Act.put, nm1, nm2, nm3, i64_w]
        refine wpList_plain rfl (fun Ko hKo => ?_)
        go_simp
        refine hKo _ _ ?_
        clear hKo Ko
        try simp only [Act.put, nm1, nm2, nm3, i64_w]
        refine wpList_plain rfl (fun Ko hKo => ?_)
        go_simp
        refine hKo _ _ ?_
        clear hKo Ko
        try simp only [Act.put, nm1, nm2, nm3, i64_w]
        refine wpList_nil ?_
        (try simp only [Exit.then, Exit.inBlock, ↓reduceIte, Nat.reduceEqDiff])
        refine hK42 _ _ ?_
        go_roundg k38
        case measure => exact Nat.lt_succ_self _
        case rel => exact ⟨wrap64 (x29 + 1), x30, P31, q32, (by first | rfl | simp), (by first | rfl | simp), HL327, ⟨by have := hk20.out; have := hk39.out; omega⟩, ⟨hm307.out⟩, ⟨hm309.out⟩, (h37.up ((((hu290.out.trans hu294.out).trans hu297.out).sto (Nat.le_trans ((Nat.le_trans (hu290.out.size) hu294.out.size)) lbb295.out) hs299.out).trans hu305.out))⟩
    ·
     rw [if_neg c45] at H
     replace c45 := Bool.eq_false_iff.mpr c45
     have HL328 := Aside0.mk H
     clear H
     try simp only [c45, Bool.not_true, Bool.not_false]
     refine wp_cond_false rfl ?_
     refine wp_exit ?_
     (try simp only [Exit.then, Exit.inBlock, ↓reduceIte, Nat.reduceEqDiff])
     refine hK27 _ _ ?_
     refine wp_region_lit ?_
     refine wpList_plain rfl (fun Ko hKo => ?_)
     go_simp
     refine hKo _ _ ?_
     clear hKo Ko
     try simp only [Act.put, nm1, nm2, nm3, i64_w]
     refine wpList_plain rfl (fun Ko hKo => ?_)
     go_simp
     refine hKo _ _ ?_
     clear hKo Ko
     try simp only [Act.put, nm1, nm2, nm3, i64_w]
     refine wpList_plain rfl (fun Ko hKo => ?_)
     go_simp
     refine hKo _ _ ?_
     clear hKo Ko
     try simp only [Act.put, nm1, nm2, nm3, i64_w]
     refine wpList_nil ?_
     (try simp only [Exit.then, Exit.inBlock, ↓reduceIte, Nat.reduceEqDiff])
     refine hK23 _ _ ?_
     go_roundg k38
     case measure => have := hk20.out; have := hk39.out; omega
     case rel => exact ⟨wrap64 (x10 + 1), x30, P31, q32, (by first | rfl | simp), (by first | rfl | simp), HL328, ⟨by have := hk20.out; have := hk39.out; omega⟩, ⟨hu34.out⟩, ⟨(Nat.le_trans ((Nat.le_trans (Nat.le_refl _) hz16.out)) hz35.out)⟩, h37⟩
  ·
   rw [if_neg c26] at H
   replace c26 := Bool.eq_false_iff.mpr c26
   obtain rfl := Option.some.inj H
   try simp only [c26, Bool.not_true, Bool.not_false]
   refine wp_cond_false rfl ?_
   refine wp_exit ?_
   (try simp only [Exit.then, Exit.inBlock, ↓reduceIte, Nat.reduceEqDiff])
   refine hK6 _ _ ?_
   refine wp_seq_k (fun K329 hK329 => ?_)
   refine wp_region_lit ?_
   refine wpList_plain rfl (fun Ko hKo => ?_)
   go_simp
   refine hKo _ _ ?_
   clear hKo Ko
   try simp only [Act.put, nm1, nm2, nm3, i64_w]
   refine wpList_plain rfl (fun Ko hKo => ?_)
   go_simp
   refine hKo _ _ ?_
   clear hKo Ko
   try simp only [Act.put, nm1, nm2, nm3, i64_w]
   refine wpList_nil ?_
   (try simp only [Exit.then, Exit.inBlock, ↓reduceIte, Nat.reduceEqDiff])
   refine hK329 _ _ ?_
   refine wp_ret ?_
   (try simp only [Exit.then, Exit.inBlock, ↓reduceIte, Nat.reduceEqDiff])
   refine hQf _ _ _ ?_
   exact bodyPost_ret (v := .slice P12 x11.length q13) (by first | rfl | (simp [results, Try.results74, go_sem]; done) | (simp [results, Try.results74, go_sem]; rfl)) rfl ⟨P12, q13, rfl, (h18.lower (Nat.le_refl _)), hu15.out⟩

set_option maxHeartbeats 40000000 in
set_option maxRecDepth 100000 in
theorem spec_l01Minus.calls (K : Nat) (a0 : Int) (a1_0 : Int) (a1_1 : Int) (a2_0 : Int) (a2_1 : Int) (r0 : Int) (r1 : Int) (w : World)  (h : spec_l01Minus.f K a0 a1_0 a1_1 a2_0 a2_1 = some (r0, r1)) :
    Calls Try.prog 101 #[.int .i64 a0, .agg #[.int .i64 a1_0, .int .i64 a1_1], .agg #[.int .i64 a2_0, .int .i64 a2_1]] w fun e w' => e = .returned (.agg #[.int .i64 r0, .int .i64 r1]) ∧ Up w w' := by
 have H : (((spec_l01Mod.f K (wrap64 (a1_0 - a2_0)) a0).bind fun t12 => ((spec_l01Mod.f K (wrap64 (a1_1 - a2_1)) a0).bind fun t14 => some (t12, t14))) : Option (Int × Int)) = some (r0, r1) := h
 clear h
 replace H := Option.bind_eq_some_iff.mp H
 obtain ⟨t12, A13, H⟩ := H
 replace A13 := Aside0.mk A13
 try dsimp only at H
 replace H := Option.bind_eq_some_iff.mp H
 obtain ⟨t14, A15, H⟩ := H
 replace A15 := Aside0.mk A15
 try dsimp only at H
 simp only [Option.some.injEq, Prod.mk.injEq] at H
 obtain ⟨rfl, rfl⟩ := H
 go_enter Try.func101, Try.ntmps101
 refine wp_hide (fun Qf hQf => ?_)
 refine wp_seq_k (fun K1 hK1 => ?_)
 refine wp_region_lit ?_
 refine step_new (cs := [.int .i64 a1_0, .int .i64 a1_1]) (T := 26) (f := fun b => .pointer (some ⟨b, 0, none⟩)) rfl (by first | (go_simp; done) | (go_simp; rfl)) ?_
 intro b2 w3 hu lb hb2
 simp only [Act.put, nm1, nm2, nm3, i64_w]
 have lbb2 := Aside0.mk lb
 have ltb2 := Aside0.mk hb2.lt
 clear lb
 have hu4 := Aside0.mk hu
 clear hu
 refine step_new (cs := [.int .i64 a2_0, .int .i64 a2_1]) (T := 26) (f := fun b => .pointer (some ⟨b, 0, none⟩)) rfl (by first | (go_simp; done) | (go_simp; rfl)) ?_
 intro b5 w6 hu lb hb5
 simp only [Act.put, nm1, nm2, nm3, i64_w]
 have lbb5 := Aside0.mk lb
 have ltb5 := Aside0.mk hb5.lt
 clear lb
 have hu7 := Aside0.mk hu
 clear hu
 refine step_new (cs := [.int .i64 0, .int .i64 0]) (T := 26) (f := fun b => .pointer (some ⟨b, 0, none⟩)) rfl (by first | (go_simp; done) | (go_simp; rfl)) ?_
 intro b8 w9 hu lb hb8
 simp only [Act.put, nm1, nm2, nm3, i64_w]
 have lbb8 := Aside0.mk lb
 have ltb8 := Aside0.mk hb8.lt
 clear lb
 have hu10 := Aside0.mk hu
 clear hu
 refine wpList_nil ?_
 (try simp only [Exit.then, Exit.inBlock, ↓reduceIte, Nat.reduceEqDiff])
 refine hK1 _ _ ?_
 refine wp_seq_k (fun K11 hK11 => ?_)
 refine' wp_region_up 15 [Slot.det _, Slot.det _, Slot.det _, Slot.det _, Slot.det _, Slot.det _, Slot.det (.int .i64 t12), Slot.det _, Slot.det _, Slot.det _, Slot.det _, Slot.det _, Slot.det _, Slot.det (.int .i64 t14), Slot.det _] (by kernel_rfl) (by kernel_rfl) ?main
 case main =>
  simp only [List.take_succ_cons, List.take_zero]
  refine wpK_ops rfl (fun w1 hu => ?_) ?_
  · clear hu
    go_simp
    first | done | rfl
  simp only [Act.put, nm1, nm2, nm3, i64_w]
  refine wpK_ops rfl (fun w1 hu => ?_) ?_
  · have cl0 := ((hb2.up (hu7.out.trans hu10.out)).up ((Up.refl _).drew.trans hu)).cell (o := 0) rfl
    go_simp
    first | done | rfl
  simp only [Act.put, nm1, nm2, nm3, i64_w]
  refine wpK_ops rfl (fun w1 hu => ?_) ?_
  · clear hu
    go_simp
    first | done | rfl
  simp only [Act.put, nm1, nm2, nm3, i64_w]
  refine wpK_ops rfl (fun w1 hu => ?_) ?_
  · have cl0 := ((hb5.up hu10.out).up ((Up.refl _).drew.trans hu)).cell (o := 0) rfl
    go_simp
    first | done | rfl
  simp only [Act.put, nm1, nm2, nm3, i64_w]
  refine wpK_ops rfl (fun w1 hu => ?_) ?_
  · clear hu
    go_simp
    first | done | rfl
  simp only [Act.put, nm1, nm2, nm3, i64_w]
  refine wpK_ops rfl (fun w1 hu => ?_) ?_
  · clear hu
    go_simp
    first | done | rfl
  simp only [Act.put, nm1, nm2, nm3, i64_w]
  refine wpK_ops rfl (fun w1 hu => ?_) ?_
  · have hcl := (spec_l01Mod.calls K (wrap64 (a1_0 - a2_0)) a0 t12 w1  A13.out)
    clear hu
    replace hcl := Aside0.mk hcl
    go_simp
    exact hcl.out
  simp only [Act.put, nm1, nm2, nm3, i64_w]
  refine wpK_ops rfl (fun w1 hu => ?_) ?_
  · clear hu
    go_simp
    first | done | rfl
  simp only [Act.put, nm1, nm2, nm3, i64_w]
  refine wpK_ops rfl (fun w1 hu => ?_) ?_
  · have cl0 := ((hb2.up (hu7.out.trans hu10.out)).up ((Up.refl _).drew.trans hu)).cell (o := 1) rfl
    go_simp
    first | done | rfl
  simp only [Act.put, nm1, nm2, nm3, i64_w]
  refine wpK_ops rfl (fun w1 hu => ?_) ?_
  · clear hu
    go_simp
    first | done | rfl
  simp only [Act.put, nm1, nm2, nm3, i64_w]
  refine wpK_ops rfl (fun w1 hu => ?_) ?_
  · have cl0 := ((hb5.up hu10.out).up ((Up.refl _).drew.trans hu)).cell (o := 1) rfl
    go_simp
    first | done | rfl
  simp only [Act.put, nm1, nm2, nm3, i64_w]
  refine wpK_ops rfl (fun w1 hu => ?_) ?_
  · clear hu
    go_simp
    first | done | rfl
  simp only [Act.put, nm1, nm2, nm3, i64_w]
  refine wpK_ops rfl (fun w1 hu => ?_) ?_
  · clear hu
    go_simp
    first | done | rfl
  simp only [Act.put, nm1, nm2, nm3, i64_w]
  refine wpK_ops rfl (fun w1 hu => ?_) ?_
  · have hcl := (spec_l01Mod.calls K (wrap64 (a1_1 - a2_1)) a0 t14 w1  A15.out)
    clear hu
    replace hcl := Aside0.mk hcl
    go_simp
    exact hcl.out
  simp only [Act.put, nm1, nm2, nm3, i64_w]
  refine wpK_ops rfl (fun w1 hu => ?_) ?_
  · clear hu
    go_simp
    first | done | rfl
  simp only [Act.put, nm1, nm2, nm3, i64_w]
  refine wpK_nil ?_
  intro w16 hu hap
  simp only [List.drop_succ_cons, List.drop_zero]
  replace hu := (Up.refl _).drew.trans hu
  clear hap
  have hu17 := Aside0.mk hu
  clear hu
  have hB0 := (hb8.up hu17.out)
  have cl0 := hB0.cell (o := 0) rfl
  have fr0 := hB0.free 0
  have cl1 := hB0.cell (o := 1) rfl
  have fr1 := hB0.free 1
  refine step_store (b := b8) (cs' := [.int .i64 t12, .int .i64 t14]) (T := 26) (W' := ((w16.setCell ⟨b8, 0, none⟩ (.int .i64 t12)).setCell ⟨b8, 1, none⟩ (.int .i64 t14))) rfl rfl (by first | (go_simp; done) | (go_simp; rfl)) (((Sto.refl _ _).setCell 0 _).setCell 1 _) (((hB0).setCell 0 _).setCell 1 _) ?_
  clear hB0 cl0 fr0 cl1 fr1
  intro w18 hs hb20
  have hs19 := Aside0.mk hs
  clear hs
  refine wpList_nil ?_
  (try simp only [Exit.then, Exit.inBlock, ↓reduceIte, Nat.reduceEqDiff])
  refine hK11 _ _ ?_
  refine wp_ret ?_
  (try simp only [Exit.then, Exit.inBlock, ↓reduceIte, Nat.reduceEqDiff])
  refine hQf _ _ _ ?_
  have cr0 := hb20.cell (o := 0) rfl
  have cr1 := hb20.cell (o := 1) rfl
  exact bodyPost_ret (v := .agg #[.int .i64 t12, .int .i64 t14]) (by first | rfl | (simp [results, Try.results101, go_sem, cr0, cr1]; done) | (simp [results, Try.results101, go_sem, cr0, cr1]; rfl)) rfl ⟨rfl, ((((hu4.out.trans hu7.out).trans hu10.out).trans hu17.out).sto (Nat.le_trans ((Nat.le_trans (hu4.out.size) hu7.out.size)) lbb8.out) hs19.out)⟩

set_option maxHeartbeats 40000000 in
set_option maxRecDepth 100000 in
theorem spec_l07About.calls (K : Nat) (a0 : Int) (a1_0 : Int) (a1_1 : Int) (a1_2 : Int) (a1_3 : Int) (a1_4 : Int) (a1_5 : Int) (a2_0 : Int) (a2_1 : Int) (r0 : Int) (r1 : Int) (r2 : Int) (r3 : Int) (r4 : Int) (r5 : Int) (w : World)  (h : spec_l07About.f K a0 a1_0 a1_1 a1_2 a1_3 a1_4 a1_5 a2_0 a2_1 = some (r0, r1, r2, r3, r4, r5)) :
    Calls Try.prog 98 #[.int .i64 a0, .agg #[.int .i64 a1_0, .int .i64 a1_1, .int .i64 a1_2, .int .i64 a1_3, .int .i64 a1_4, .int .i64 a1_5], .agg #[.int .i64 a2_0, .int .i64 a2_1]] w fun e w' => e = .returned (.agg #[.int .i64 r0, .int .i64 r1, .int .i64 r2, .int .i64 r3, .int .i64 r4, .int .i64 r5]) ∧ Up w w' := by
 have H : (((spec_l07Lead.f K a0 a1_0 a1_1 a1_2 a1_3 a1_4 a1_5 a2_0 a2_1).bind fun (t12, t13) => ((spec_l01Minus.f K a0 a2_0 a2_1 t12 t13).bind fun (t15, t16) => some (a1_0, a1_1, a1_2, a1_3, t15, t16))) : Option (Int × Int × Int × Int × Int × Int)) = some (r0, r1, r2, r3, r4, r5) := h
 clear h
 replace H := Option.bind_eq_some_iff.mp H
 obtain ⟨⟨t12, t13⟩, A14, H⟩ := H
 replace A14 := Aside0.mk A14
 try dsimp only at H
 replace H := Option.bind_eq_some_iff.mp H
 obtain ⟨⟨t15, t16⟩, A17, H⟩ := H
 replace A17 := Aside0.mk A17
 try dsimp only at H
 simp only [Option.some.injEq, Prod.mk.injEq] at H
 obtain ⟨rfl, rfl, rfl, rfl, rfl, rfl⟩ := H
 go_enter Try.func98, Try.ntmps98
 refine wp_hide (fun Qf hQf => ?_)
 refine wp_seq_k (fun K1 hK1 => ?_)
 refine wp_region_lit ?_
 refine step_new (cs := [.int .i64 a1_0, .int .i64 a1_1, .int .i64 a1_2, .int .i64 a1_3, .int .i64 a1_4, .int .i64 a1_5]) (T := 30) (f := fun b => .pointer (some ⟨b, 0, none⟩)) rfl (by first | (go_simp; done) | (go_simp; rfl)) ?_
 intro b2 w3 hu lb hb2
 simp only [Act.put, nm1, nm2, nm3, i64_w]
 have lbb2 := Aside0.mk lb
 have ltb2 := Aside0.mk hb2.lt
 clear lb
 have hu4 := Aside0.mk hu
 clear hu
 refine step_new (cs := [.int .i64 a2_0, .int .i64 a2_1]) (T := 26) (f := fun b => .pointer (some ⟨b, 0, none⟩)) rfl (by first | (go_simp; done) | (go_simp; rfl)) ?_
 intro b5 w6 hu lb hb5
 simp only [Act.put, nm1, nm2, nm3, i64_w]
 have lbb5 := Aside0.mk lb
 have ltb5 := Aside0.mk hb5.lt
 clear lb
 have hu7 := Aside0.mk hu
 clear hu
 refine step_new (cs := [.int .i64 0, .int .i64 0, .int .i64 0, .int .i64 0, .int .i64 0, .int .i64 0]) (T := 30) (f := fun b => .pointer (some ⟨b, 0, none⟩)) rfl (by first | (go_simp; done) | (go_simp; rfl)) ?_
 intro b8 w9 hu lb hb8
 simp only [Act.put, nm1, nm2, nm3, i64_w]
 have lbb8 := Aside0.mk lb
 have ltb8 := Aside0.mk hb8.lt
 clear lb
 have hu10 := Aside0.mk hu
 clear hu
 refine wpList_nil ?_
 (try simp only [Exit.then, Exit.inBlock, ↓reduceIte, Nat.reduceEqDiff])
 refine hK1 _ _ ?_
 refine wp_seq_k (fun K11 hK11 => ?_)
 refine' wp_region_up 8 [Slot.det _, Slot.det _, Slot.det _, Slot.det _, Slot.det _, Slot.det (.agg #[.int .i64 t12, .int .i64 t13]), Slot.det (.agg #[.int .i64 t15, .int .i64 t16]), Slot.det _] (by kernel_rfl) (by kernel_rfl) ?main
 case main =>
  simp only [List.take_succ_cons, List.take_zero]
  refine wpK_ops rfl (fun w1 hu => ?_) ?_
  · clear hu
    go_simp
    first | done | rfl
  simp only [Act.put, nm1, nm2, nm3, i64_w]
  refine wpK_ops rfl (fun w1 hu => ?_) ?_
  · have cl0 := ((hb5.up hu10.out).up ((Up.refl _).drew.trans hu)).cell (o := 0) rfl
    have cl1 := ((hb5.up hu10.out).up ((Up.refl _).drew.trans hu)).cell (o := 1) rfl
    go_simp
    first | done | rfl
  simp only [Act.put, nm1, nm2, nm3, i64_w]
  refine wpK_ops rfl (fun w1 hu => ?_) ?_
  · clear hu
    go_simp
    first | done | rfl
  simp only [Act.put, nm1, nm2, nm3, i64_w]
  refine wpK_ops rfl (fun w1 hu => ?_) ?_
  · have cl0 := ((hb2.up (hu7.out.trans hu10.out)).up ((Up.refl _).drew.trans hu)).cell (o := 0) rfl
    have cl1 := ((hb2.up (hu7.out.trans hu10.out)).up ((Up.refl _).drew.trans hu)).cell (o := 1) rfl
    have cl2 := ((hb2.up (hu7.out.trans hu10.out)).up ((Up.refl _).drew.trans hu)).cell (o := 2) rfl
    have cl3 := ((hb2.up (hu7.out.trans hu10.out)).up ((Up.refl _).drew.trans hu)).cell (o := 3) rfl
    have cl4 := ((hb2.up (hu7.out.trans hu10.out)).up ((Up.refl _).drew.trans hu)).cell (o := 4) rfl
    have cl5 := ((hb2.up (hu7.out.trans hu10.out)).up ((Up.refl _).drew.trans hu)).cell (o := 5) rfl
    go_simp
    first | done | rfl
  simp only [Act.put, nm1, nm2, nm3, i64_w]
  refine wpK_ops rfl (fun w1 hu => ?_) ?_
  · have cl0 := ((hb5.up hu10.out).up ((Up.refl _).drew.trans hu)).cell (o := 0) rfl
    have cl1 := ((hb5.up hu10.out).up ((Up.refl _).drew.trans hu)).cell (o := 1) rfl
    go_simp
    first | done | rfl
  simp only [Act.put, nm1, nm2, nm3, i64_w]
  refine wpK_ops rfl (fun w1 hu => ?_) ?_
  · have hcl := (spec_l07Lead.calls K a0 a1_0 a1_1 a1_2 a1_3 a1_4 a1_5 a2_0 a2_1 t12 t13 w1  A14.out)
    clear hu
    replace hcl := Aside0.mk hcl
    go_simp
    exact hcl.out
  simp only [Act.put, nm1, nm2, nm3, i64_w]
  refine wpK_ops rfl (fun w1 hu => ?_) ?_
  · have hcl := (spec_l01Minus.calls K a0 a2_0 a2_1 t12 t13 t15 t16 w1  A17.out)
    clear hu
    replace hcl := Aside0.mk hcl
    go_simp
    exact hcl.out
  simp only [Act.put, nm1, nm2, nm3, i64_w]
  refine wpK_ops rfl (fun w1 hu => ?_) ?_
  · clear hu
    go_simp
    first | done | rfl
  simp only [Act.put, nm1, nm2, nm3, i64_w]
  refine wpK_nil ?_
  intro w18 hu hap
  simp only [List.drop_succ_cons, List.drop_zero]
  replace hu := (Up.refl _).drew.trans hu
  clear hap
  have hu19 := Aside0.mk hu
  clear hu
  have hB0 := (hb2.up ((hu7.out.trans hu10.out).trans hu19.out))
  have cl0 := hB0.cell (o := 4) rfl
  have fr0 := hB0.free 4
  have cl1 := hB0.cell (o := 5) rfl
  have fr1 := hB0.free 5
  refine step_store (b := b2) (cs' := [.int .i64 a1_0, .int .i64 a1_1, .int .i64 a1_2, .int .i64 a1_3, .int .i64 t15, .int .i64 t16]) (T := 30) (W' := ((w18.setCell ⟨b2, 4, none⟩ (.int .i64 t15)).setCell ⟨b2, 5, none⟩ (.int .i64 t16))) rfl rfl (by first | (go_simp; done) | (go_simp; rfl)) (((Sto.refl _ _).setCell 4 _).setCell 5 _) (((hB0).setCell 4 _).setCell 5 _) ?_
  clear hB0 cl0 fr0 cl1 fr1
  intro w20 hs hb22
  have hs21 := Aside0.mk hs
  clear hs
  have h23 := (hb5.up (hu10.out.trans hu19.out)).sto hs21.out (Ne.symm (Nat.ne_of_lt (Nat.lt_of_lt_of_le ltb2.out lbb5.out)))
  have h24 := (hb8.up hu19.out).sto hs21.out (Ne.symm (Nat.ne_of_lt (Nat.lt_of_lt_of_le (Nat.lt_of_lt_of_le ltb2.out (hu7.out.size)) lbb8.out)))
  refine wpList_nil ?_
  (try simp only [Exit.then, Exit.inBlock, ↓reduceIte, Nat.reduceEqDiff])
  refine hK11 _ _ ?_
  refine wp_seq_k (fun K25 hK25 => ?_)
  refine wp_region_lit ?_
  have cl0 := hb22.cell (o := 0) rfl
  have cl1 := hb22.cell (o := 1) rfl
  have cl2 := hb22.cell (o := 2) rfl
  have cl3 := hb22.cell (o := 3) rfl
  have cl4 := hb22.cell (o := 4) rfl
  have cl5 := hb22.cell (o := 5) rfl
  refine wpList_plain rfl (fun Ko hKo => ?_)
  go_simp
  refine hKo _ _ ?_
  clear hKo Ko
  clear cl0 cl1 cl2 cl3 cl4 cl5
  try simp only [Act.put, nm1, nm2, nm3, i64_w]
  have hB0 := h24
  have cl0 := hB0.cell (o := 0) rfl
  have fr0 := hB0.free 0
  have cl1 := hB0.cell (o := 1) rfl
  have fr1 := hB0.free 1
  have cl2 := hB0.cell (o := 2) rfl
  have fr2 := hB0.free 2
  have cl3 := hB0.cell (o := 3) rfl
  have fr3 := hB0.free 3
  have cl4 := hB0.cell (o := 4) rfl
  have fr4 := hB0.free 4
  have cl5 := hB0.cell (o := 5) rfl
  have fr5 := hB0.free 5
  refine step_store (b := b8) (cs' := [.int .i64 a1_0, .int .i64 a1_1, .int .i64 a1_2, .int .i64 a1_3, .int .i64 t15, .int .i64 t16]) (T := 30) (W' := ((((((w20.setCell ⟨b8, 0, none⟩ (.int .i64 a1_0)).setCell ⟨b8, 1, none⟩ (.int .i64 a1_1)).setCell ⟨b8, 2, none⟩ (.int .i64 a1_2)).setCell ⟨b8, 3, none⟩ (.int .i64 a1_3)).setCell ⟨b8, 4, none⟩ (.int .i64 t15)).setCell ⟨b8, 5, none⟩ (.int .i64 t16))) rfl rfl (by first | (go_simp; done) | (go_simp; rfl)) (((((((Sto.refl _ _).setCell 0 _).setCell 1 _).setCell 2 _).setCell 3 _).setCell 4 _).setCell 5 _) (((((((hB0).setCell 0 _).setCell 1 _).setCell 2 _).setCell 3 _).setCell 4 _).setCell 5 _) ?_
  clear hB0 cl0 fr0 cl1 fr1 cl2 fr2 cl3 fr3 cl4 fr4 cl5 fr5
  intro w26 hs hb28
  have hs27 := Aside0.mk hs
  clear hs
  have h29 := hb22.sto hs27.out (Nat.ne_of_lt (Nat.lt_of_lt_of_le (Nat.lt_of_lt_of_le ltb2.out (hu7.out.size)) lbb8.out))
  have h30 := h23.sto hs27.out (Nat.ne_of_lt (Nat.lt_of_lt_of_le ltb5.out lbb8.out))
  refine wpList_nil ?_
  (try simp only [Exit.then, Exit.inBlock, ↓reduceIte, Nat.reduceEqDiff])
  refine hK25 _ _ ?_
  refine wp_ret ?_
  (try simp only [Exit.then, Exit.inBlock, ↓reduceIte, Nat.reduceEqDiff])
  refine hQf _ _ _ ?_
  have cr0 := hb28.cell (o := 0) rfl
  have cr1 := hb28.cell (o := 1) rfl
  have cr2 := hb28.cell (o := 2) rfl
  have cr3 := hb28.cell (o := 3) rfl
  have cr4 := hb28.cell (o := 4) rfl
  have cr5 := hb28.cell (o := 5) rfl
  exact bodyPost_ret (v := .agg #[.int .i64 a1_0, .int .i64 a1_1, .int .i64 a1_2, .int .i64 a1_3, .int .i64 t15, .int .i64 t16]) (by first | rfl | (simp [results, Try.results98, go_sem, cr0, cr1, cr2, cr3, cr4, cr5]; done) | (simp [results, Try.results98, go_sem, cr0, cr1, cr2, cr3, cr4, cr5]; rfl)) rfl ⟨rfl, (((((hu4.out.trans hu7.out).trans hu10.out).trans hu19.out).sto (Nat.le_trans (Nat.le_refl _) lbb2.out) hs21.out).sto (Nat.le_trans ((Nat.le_trans (hu4.out.size) hu7.out.size)) lbb8.out) hs27.out)⟩

set_option maxHeartbeats 40000000 in
set_option maxRecDepth 100000 in
theorem spec_TurnsAbout.calls (K : Nat) (a0 : Int) (a1 : Int) (a2_0 : Int) (a2_1 : Int) (r0 : List (Int × Int × Int × Int × Int × Int)) (r1 : Int) (w : World)  (h : spec_TurnsAbout.f K a0 a1 a2_0 a2_1 = some (r0, r1)) :
    Calls Try.prog 38 #[.int .i64 a0, .int .i64 a1, .agg #[.int .i64 a2_0, .int .i64 a2_1]] w fun e w' => ∃ (Ar0 : Option Addr) (cr0 : Nat), e = .returned (.tuple #[.slice Ar0 r0.length cr0, .int .i64 r1]) ∧ Own e6 30 w' w.heap.size (.slice Ar0 r0.length cr0) r0 ∧ Up w w' := by
 have H : (((spec_l03Points.f K a0 a1 ([(a2_0, a2_1)])).bind fun t10 => (if (t10 == 0) = true then ((spec_l07All.f K a0 a1 1).bind fun t17 => (spec_TurnsAbout.l0 K a0 a2_0 a2_1 t17 K 0 ([] : List (Int × Int × Int × Int × Int × Int)))) else some ([], t10))) : Option (List (Int × Int × Int × Int × Int × Int) × Int)) = some (r0, r1) := h
 clear h
 replace H := Option.bind_eq_some_iff.mp H
 obtain ⟨t10, A11, H⟩ := H
 replace A11 := Aside0.mk A11
 try dsimp only at H
 go_enter Try.func38, Try.ntmps38
 refine wp_hide (fun Qf hQf => ?_)
 refine wp_seq_k (fun K1 hK1 => ?_)
 refine wp_region_lit ?_
 refine step_new (cs := [.int .i64 a2_0, .int .i64 a2_1]) (T := 26) (f := fun b => .pointer (some ⟨b, 0, none⟩)) rfl (by first | (go_simp; done) | (go_simp; rfl)) ?_
 intro b2 w3 hu lb hb2
 simp only [Act.put, nm1, nm2, nm3, i64_w]
 have lbb2 := Aside0.mk lb
 have ltb2 := Aside0.mk hb2.lt
 clear lb
 have hu4 := Aside0.mk hu
 clear hu
 refine wpList_plain rfl (fun Ko hKo => ?_)
 go_simp
 refine hKo _ _ ?_
 clear hKo Ko
 try simp only [Act.put, nm1, nm2, nm3, i64_w]
 refine wpList_plain rfl (fun Ko hKo => ?_)
 go_simp
 refine hKo _ _ ?_
 clear hKo Ko
 try simp only [Act.put, nm1, nm2, nm3, i64_w]
 refine wpList_nil ?_
 (try simp only [Exit.then, Exit.inBlock, ↓reduceIte, Nat.reduceEqDiff])
 refine hK1 _ _ ?_
 refine wp_seq_k (fun K5 hK5 => ?_)
 refine wp_seq_k (fun K6 hK6 => ?_)
 refine wp_region_lit ?_
 refine wpList_plain rfl (fun Ko hKo => ?_)
 go_simp
 refine hKo _ _ ?_
 clear hKo Ko
 try simp only [Act.put, nm1, nm2, nm3, i64_w]
 refine wpList_plain rfl (fun Ko hKo => ?_)
 go_simp
 refine hKo _ _ ?_
 clear hKo Ko
 try simp only [Act.put, nm1, nm2, nm3, i64_w]
 have cl0 := hb2.cell (o := 0) rfl
 have cl1 := hb2.cell (o := 1) rfl
 refine wpList_plain rfl (fun Ko hKo => ?_)
 go_simp
 refine hKo _ _ ?_
 clear hKo Ko
 clear cl0 cl1
 try simp only [Act.put, nm1, nm2, nm3, i64_w]
 refine step_new (cs := [.int .i64 a2_0, .int .i64 a2_1]) (T := 26) (f := fun b => .slice (some ⟨b, 0, none⟩) 1 1) rfl (by first | (go_simp; done) | (go_simp; rfl)) ?_
 intro b7 w8 hu lb hb7
 simp only [Act.put, nm1, nm2, nm3, i64_w]
 have lbb7 := Aside0.mk lb
 have ltb7 := Aside0.mk hb7.lt
 clear lb
 have hu9 := Aside0.mk hu
 clear hu
 refine step_call (wanted_none rfl) (by first | (go_simp; done) | (go_simp; rfl)) (spec_l03Points.calls K a0 a1 (some ⟨b7, 0, none⟩) 1 ([(a2_0, a2_1)]) t10 w8 (Rd.of_blk (E := e2) (xs := [(a2_0, a2_1)]) (o := 0) hb7 (by simp) (fun j u hu => by rcases j with _ | _ | j <;> simp_all [Enc.flat, e2])) A11.out) ?_
 rintro e w12 ⟨rfl, hu⟩
 have hu13 := Aside0.mk hu
 clear hu
 refine ⟨_, rfl, ?_⟩
 simp only [Act.put, nm1, nm2, nm3, i64_w]
 refine wpList_plain rfl (fun Ko hKo => ?_)
 go_simp
 refine hKo _ _ ?_
 clear hKo Ko
 try simp only [Act.put, nm1, nm2, nm3, i64_w]
 refine wpList_nil ?_
 (try simp only [Exit.then, Exit.inBlock, ↓reduceIte, Nat.reduceEqDiff])
 refine hK6 _ _ ?_
 refine wp_seq_k (fun K14 hK14 => ?_)
 refine wp_region_lit ?_
 refine wpList_plain rfl (fun Ko hKo => ?_)
 go_simp
 refine hKo _ _ ?_
 clear hKo Ko
 try simp only [Act.put, nm1, nm2, nm3, i64_w]
 refine wpList_plain rfl (fun Ko hKo => ?_)
 go_simp
 refine hKo _ _ ?_
 clear hKo Ko
 try simp only [Act.put, nm1, nm2, nm3, i64_w]
 refine wpList_nil ?_
 (try simp only [Exit.then, Exit.inBlock, ↓reduceIte, Nat.reduceEqDiff])
 refine hK14 _ _ ?_
 by_cases c15 : (t10 == 0) = true
 ·
  rw [if_pos c15] at H
  have c15n : (t10 != 0) = false := by rw [bne, c15]; rfl
  replace H := Option.bind_eq_some_iff.mp H
  obtain ⟨t17, A20, H⟩ := H
  replace A20 := Aside0.mk A20
  try dsimp only at H
  try simp only [c15, c15n, Bool.not_true, Bool.not_false]
  refine wp_cond_false rfl ?_
  refine wp_skip ?_
  (try simp only [Exit.then, Exit.inBlock, ↓reduceIte, Nat.reduceEqDiff])
  refine hK5 _ _ ?_
  refine wp_seq_k (fun K16 hK16 => ?_)
  refine wp_region_lit ?_
  refine wpList_plain rfl (fun Ko hKo => ?_)
  go_simp
  refine hKo _ _ ?_
  clear hKo Ko
  try simp only [Act.put, nm1, nm2, nm3, i64_w]
  refine wpList_plain rfl (fun Ko hKo => ?_)
  go_simp
  refine hKo _ _ ?_
  clear hKo Ko
  try simp only [Act.put, nm1, nm2, nm3, i64_w]
  refine step_call (wanted_none rfl) (by first | (go_simp; done) | (go_simp; rfl)) (spec_l07All.calls K a0 a1 1 t17 w12  A20.out) ?_
  rintro e w21 ⟨P18, q19, rfl, ht17, hu⟩
  have hu22 := Aside0.mk hu
  clear hu
  refine ⟨_, rfl, ?_⟩
  simp only [Act.put, nm1, nm2, nm3, i64_w]
  refine step_new (cs := []) (T := 30) (f := fun b => .slice (some ⟨b, 0, none⟩) 0 0) rfl (by first | (go_simp; done) | (go_simp; rfl)) ?_
  intro b23 w24 hu lb hb23
  simp only [Act.put, nm1, nm2, nm3, i64_w]
  have lbb23 := Aside0.mk lb
  have ltb23 := Aside0.mk hb23.lt
  clear lb
  have hu25 := Aside0.mk hu
  clear hu
  refine wpList_plain rfl (fun Ko hKo => ?_)
  go_simp
  refine hKo _ _ ?_
  clear hKo Ko
  try simp only [Act.put, nm1, nm2, nm3, i64_w]
  refine wpList_plain rfl (fun Ko hKo => ?_)
  go_simp
  refine hKo _ _ ?_
  clear hKo Ko
  try simp only [Act.put, nm1, nm2, nm3, i64_w]
  refine wpList_nil ?_
  (try simp only [Exit.then, Exit.inBlock, ↓reduceIte, Nat.reduceEqDiff])
  refine hK16 _ _ ?_
  refine wp_seq_k (fun K26 hK26 => ?_)
  refine wp_seq_k (fun K27 hK27 => ?_)
  refine wp_region_lit ?_
  refine wpList_plain rfl (fun Ko hKo => ?_)
  go_simp
  refine hKo _ _ ?_
  clear hKo Ko
  try simp only [Act.put, nm1, nm2, nm3, i64_w]
  refine wpList_nil ?_
  (try simp only [Exit.then, Exit.inBlock, ↓reduceIte, Nat.reduceEqDiff])
  refine hK27 _ _ ?_
  refine wp_block ?_
  have h29 : Own e6 30 w24 w21.heap.size (.slice (some ⟨b23, 0, none⟩) ([].length) 0) [] := Own.of_blk hb23 lbb23.out rfl (by simp) (by simp [Enc.flat, e6])
  have HL37 := Aside0.mk H
  clear H
  go_loopg [11, 10] K (fun kq v11 v10 w' => ∃ (x30 : Int) (x31 : List (Int × Int × Int × Int × Int × Int)) (P32 : Option Addr) (q33 : Nat), v11 = .int .i64 x30 ∧ v10 = .slice P32 x31.length q33 ∧ Aside0 (spec_TurnsAbout.l0 K a0 a2_0 a2_1 t17 kq x30 x31 = some (r0, r1)) ∧ Aside0 (kq ≤ K) ∧ Aside0 (Up w21 w') ∧ Aside0 (w24.heap.size ≤ w'.heap.size) ∧ Own e6 30 w' w21.heap.size (.slice P32 x31.length q33) x31 ∧ Aside0 (∀ k, blk (.slice P32 x31.length q33) = some k → k ≠ b2) ∧ Aside0 (∀ k, blk (.slice P32 x31.length q33) = some k → k ≠ b7) ∧ Aside0 (∀ k l, blk (.slice P32 x31.length q33) = some k → blk (.slice P18 t17.length q19) = some l → k ≠ l))
  case atStart => exact ⟨0, ([] : List (Int × Int × Int × Int × Int × Int)), some ⟨b23, 0, none⟩, 0, (by first | rfl | simp), (by first | rfl | simp), HL37, ⟨Nat.le_refl _⟩, ⟨hu25.out⟩, ⟨Nat.le_refl _⟩, h29, ⟨(fun k hk => Ne.symm ((fun k hk => Nat.ne_of_lt (Nat.lt_of_lt_of_le (Nat.lt_of_lt_of_le ltb2.out ((Nat.le_trans ((Nat.le_trans (hu9.out.size) hu13.out.size)) hu22.out.size))) ((fun k hk => Nat.le_trans (Nat.le_refl _) (h29.lt k hk).1) k hk))) k hk))⟩, ⟨(fun k hk => Ne.symm ((fun k hk => Nat.ne_of_lt (Nat.lt_of_lt_of_le (Nat.lt_of_lt_of_le ltb7.out ((Nat.le_trans (hu13.out.size) hu22.out.size))) ((fun k hk => Nat.le_trans (Nat.le_refl _) (h29.lt k hk).1) k hk))) k hk))⟩, ⟨(fun k l hk hl => Ne.symm ((fun k l hk hl => Nat.ne_of_lt (Nat.lt_of_lt_of_le ((fun k hk => Nat.lt_of_lt_of_le (ht17.lt k hk).2 (Nat.le_refl _)) k hk) ((fun k hk => Nat.le_trans (Nat.le_refl _) (h29.lt k hk).1) l hl))) l k hl hk))⟩⟩
  case round =>
   rename_i J45 K46 hJ45 hK46
   obtain ⟨x30, x31, P32, q33, rfl, rfl, HL44, hk43, hu35, hz36, h38, hn39, hn40, hn41⟩ := hrel
   obtain ⟨w34, rfl⟩ : ∃ wo : World, wo = wr := ⟨_, rfl⟩
   obtain ⟨k42, rfl⟩ | rfl : (∃ k, gk = k + 1) ∨ gk = 0 := by rcases gk with _ | k; exact .inr rfl; exact .inl ⟨k, rfl⟩
   case inr => exact absurd HL44.out (by simp [spec_TurnsAbout.l0])
   have H := HL44.out
   clear HL44
   rw [spec_TurnsAbout.l0] at H
   refine wp_seq_k (fun K47 hK47 => ?_)
   refine wp_seq_k (fun K48 hK48 => ?_)
   refine wp_region_lit ?_
   refine wpList_plain rfl (fun Ko hKo => ?_)
   go_simp
   refine hKo _ _ ?_
   clear hKo Ko
   try simp only [Act.put, nm1, nm2, nm3, i64_w]
   refine wpList_plain rfl (fun Ko hKo => ?_)
   go_simp
   refine hKo _ _ ?_
   clear hKo Ko
   try simp only [Act.put, nm1, nm2, nm3, i64_w]
   refine wpList_plain rfl (fun Ko hKo => ?_)
   go_simp
   refine hKo _ _ ?_
   clear hKo Ko
   try simp only [Act.put, nm1, nm2, nm3, i64_w]
   refine wpList_plain rfl (fun Ko hKo => ?_)
   go_simp
   refine hKo _ _ ?_
   clear hKo Ko
   try simp only [Act.put, nm1, nm2, nm3, i64_w]
   refine wpList_nil ?_
   (try simp only [Exit.then, Exit.inBlock, ↓reduceIte, Nat.reduceEqDiff])
   refine hK48 _ _ ?_
   have hm50 := Aside0.mk (Nat.le_trans ((Nat.le_trans ((Nat.le_trans ((Nat.le_trans ((Nat.le_trans (hu4.out.size) hu9.out.size)) hu13.out.size)) hu22.out.size)) hu25.out.size)) hz36.out)
   have h51 := (hb2.up (((hu9.out.trans hu13.out).trans hu22.out).trans hu35.out))
   by_cases c49 : (decide (x30 < (t17.length : Int))) = true
   ·
    rw [if_pos c49] at H
    replace H := Option.bind_eq_some_iff.mp H
    obtain ⟨⟨t53, t54, t55, t56, t57, t58⟩, A59, H⟩ := H
    replace A59 := Aside0.mk A59
    try dsimp only at H
    replace H := Option.bind_eq_some_iff.mp H
    obtain ⟨⟨t64, t65, t66, t67, t68, t69⟩, A70, H⟩ := H
    replace A70 := Aside0.mk A70
    try dsimp only at H
    replace H := Option.bind_eq_some_iff.mp H
    obtain ⟨t71, A74, H⟩ := H
    replace A74 := Aside0.mk A74
    try dsimp only at H
    have HL78 := Aside0.mk H
    clear H
    try simp only [c49, Bool.not_true, Bool.not_false]
    refine wp_cond_true rfl ?_
    refine wp_skip ?_
    (try simp only [Exit.then, Exit.inBlock, ↓reduceIte, Nat.reduceEqDiff])
    refine hK47 _ _ ?_
    refine wp_seq_k (fun K52 hK52 => ?_)
    refine wp_block ?_
    obtain ⟨ad60, hat, he⟩ := rd_at ((ht17.up hu35.out).rd) A59.out
    have he61 := Aside0.mk he
    have hat63 := Aside0.mk hat
    clear he hat
    refine' wp_region_up 9 [Slot.det _, Slot.det _, Slot.det _, Slot.det _, Slot.det (.pointer (some ad60)), Slot.det _, Slot.det _, Slot.det (.agg #[.int .i64 t64, .int .i64 t65, .int .i64 t66, .int .i64 t67, .int .i64 t68, .int .i64 t69]), Slot.any (RowTo e6 30 w34.heap.size t71 (fun v => v)) true] (by kernel_rfl) (by kernel_rfl) ?main
    case main =>
     simp only [List.take_succ_cons, List.take_zero]
     refine wpK_ops rfl (fun w1 hu => ?_) ?_
     · clear hu
       go_simp
       first | done | rfl
     simp only [Act.put, nm1, nm2, nm3, i64_w]
     refine wpK_ops rfl (fun w1 hu => ?_) ?_
     · clear hu
       go_simp
       first | done | rfl
     simp only [Act.put, nm1, nm2, nm3, i64_w]
     refine wpK_ops rfl (fun w1 hu => ?_) ?_
     · clear hu
       go_simp
       first | done | rfl
     simp only [Act.put, nm1, nm2, nm3, i64_w]
     refine wpK_ops rfl (fun w1 hu => ?_) ?_
     · clear hu
       go_simp
       first | done | rfl
     simp only [Act.put, nm1, nm2, nm3, i64_w]
     refine wpK_ops rfl (fun w1 hu => ?_) ?_
     · exact quiet_index e6 (T := 30) rfl (by kernel_rfl) (by kernel_rfl) rfl rfl rfl hat63.out A59.out
     simp only [Act.put, nm1, nm2, nm3, i64_w]
     refine wpK_ops rfl (fun w1 hu => ?_) ?_
     · have cl0 := he61.out 0 _ rfl
       rw [addr_add0] at cl0
       replace cl0 := (((Up.refl _).drew.trans hu)).kept cl0
       have cl1 : World.cell? _ ⟨ad60.block, ad60.off + 1, none⟩ = some _ := he61.out 1 _ rfl
       replace cl1 := (((Up.refl _).drew.trans hu)).kept cl1
       have cl2 : World.cell? _ ⟨ad60.block, ad60.off + 2, none⟩ = some _ := he61.out 2 _ rfl
       replace cl2 := (((Up.refl _).drew.trans hu)).kept cl2
       have cl3 : World.cell? _ ⟨ad60.block, ad60.off + 3, none⟩ = some _ := he61.out 3 _ rfl
       replace cl3 := (((Up.refl _).drew.trans hu)).kept cl3
       have cl4 : World.cell? _ ⟨ad60.block, ad60.off + 4, none⟩ = some _ := he61.out 4 _ rfl
       replace cl4 := (((Up.refl _).drew.trans hu)).kept cl4
       have cl5 : World.cell? _ ⟨ad60.block, ad60.off + 5, none⟩ = some _ := he61.out 5 _ rfl
       replace cl5 := (((Up.refl _).drew.trans hu)).kept cl5
       go_simp
       first | done | rfl
     simp only [Act.put, nm1, nm2, nm3, i64_w]
     refine wpK_ops rfl (fun w1 hu => ?_) ?_
     · have cl0 := (h51.up ((Up.refl _).drew.trans hu)).cell (o := 0) rfl
       have cl1 := (h51.up ((Up.refl _).drew.trans hu)).cell (o := 1) rfl
       go_simp
       first | done | rfl
     simp only [Act.put, nm1, nm2, nm3, i64_w]
     refine wpK_ops rfl (fun w1 hu => ?_) ?_
     · have hcl := (spec_l07About.calls K a0 t53 t54 t55 t56 t57 t58 a2_0 a2_1 t64 t65 t66 t67 t68 t69 w1  A70.out)
       clear hu
       replace hcl := Aside0.mk hcl
       go_simp
       exact hcl.out
     simp only [Act.put, nm1, nm2, nm3, i64_w]
     refine wpK_any rfl (stab_row _ _ _ _ _) (fun w1 hu hl => ?_) (fun v75 => ?_)
     · have hcl := spec_l07Put.calls K P32 q33 x31 t64 t65 t66 t67 t68 t69 t71 w1 (h38.rd.up ((Up.refl _).drew.trans hu)) (Own.cap h38) A74.out
       have hz := ((Up.refl _).drew.trans hu).size
       clear hu
       replace hcl := Aside0.mk hcl
       exact fresh_row1 (by first | (go_simp; done) | (go_simp; rfl)) hcl.out hz
     simp only [Act.put, nm1, nm2, nm3, i64_w]
     refine wpK_nil ?_
     intro w76 hu hap
     simp only [List.drop_succ_cons, List.drop_zero]
     replace hu := (Up.refl _).drew.trans hu
     obtain ⟨hf0, hn0, ⟨P72, q73, e0, ht71⟩, -⟩ := hap
     dsimp only at e0
     subst e0
     clear hf0 hn0
     have hu77 := Aside0.mk hu
     clear hu
     refine wpList_plain rfl (fun Ko hKo => ?_)
     go_simp
     refine hKo _ _ ?_
     clear hKo Ko
     try simp only [Act.put, nm1, nm2, nm3, i64_w]
     refine wpList_nil ?_
     (try simp only [Exit.then, Exit.inBlock, ↓reduceIte, Nat.reduceEqDiff])
     refine hK52 _ _ ?_
     refine wp_region_lit ?_
     refine wpList_plain rfl (fun Ko hKo => ?_)
     go_simp
     refine hKo _ _ ?_
     clear hKo Ko
     try simp only [Act.put, nm1, nm2, nm3, i64_w]
     refine wpList_plain rfl (fun Ko hKo => ?_)
     go_simp
     refine hKo _ _ ?_
     clear hKo Ko
     try simp only [Act.put, nm1, nm2, nm3, i64_w]
     refine wpList_plain rfl (fun Ko hKo => ?_)
     go_simp
     refine hKo _ _ ?_
     clear hKo Ko
     try simp only [Act.put, nm1, nm2, nm3, i64_w]
     refine wpList_nil ?_
     (try simp only [Exit.then, Exit.inBlock, ↓reduceIte, Nat.reduceEqDiff])
     refine hK46 _ _ ?_
     go_roundg k42
     case measure => exact Nat.lt_succ_self _
     case rel => exact ⟨wrap64 (x30 + 1), t71, P72, q73, (by first | rfl | simp), (by first | rfl | simp), HL78, ⟨by have := hk43.out; omega⟩, ⟨(hu35.out.trans hu77.out)⟩, ⟨(Nat.le_trans ((Nat.le_trans (Nat.le_refl _) hz36.out)) hu77.out.size)⟩, (ht71.lower ((Nat.le_trans (hu25.out.size) hz36.out))), ⟨(fun k hk => Ne.symm ((fun k hk => Nat.ne_of_lt (Nat.lt_of_lt_of_le (Nat.lt_of_lt_of_le ltb2.out ((Nat.le_trans ((Nat.le_trans ((Nat.le_trans ((Nat.le_trans (hu9.out.size) hu13.out.size)) hu22.out.size)) hu25.out.size)) hz36.out))) ((fun k hk => Nat.le_trans (Nat.le_refl _) (ht71.lt k hk).1) k hk))) k hk))⟩, ⟨(fun k hk => Ne.symm ((fun k hk => Nat.ne_of_lt (Nat.lt_of_lt_of_le (Nat.lt_of_lt_of_le ltb7.out ((Nat.le_trans ((Nat.le_trans ((Nat.le_trans (hu13.out.size) hu22.out.size)) hu25.out.size)) hz36.out))) ((fun k hk => Nat.le_trans (Nat.le_refl _) (ht71.lt k hk).1) k hk))) k hk))⟩, ⟨(fun k l hk hl => Ne.symm ((fun k l hk hl => Nat.ne_of_lt (Nat.lt_of_lt_of_le ((fun k hk => Nat.lt_of_lt_of_le (ht17.lt k hk).2 ((Nat.le_trans (hu25.out.size) hz36.out))) k hk) ((fun k hk => Nat.le_trans (Nat.le_refl _) (ht71.lt k hk).1) l hl))) l k hl hk))⟩⟩
   ·
    rw [if_neg c49] at H
    replace c49 := Bool.eq_false_iff.mpr c49
    simp only [Option.some.injEq, Prod.mk.injEq] at H
    obtain ⟨rfl, rfl⟩ := H
    try simp only [c49, Bool.not_true, Bool.not_false]
    refine wp_cond_false rfl ?_
    refine wp_exit ?_
    (try simp only [Exit.then, Exit.inBlock, ↓reduceIte, Nat.reduceEqDiff])
    refine hK26 _ _ ?_
    refine wp_seq_k (fun K79 hK79 => ?_)
    refine wp_region_lit ?_
    refine wpList_plain rfl (fun Ko hKo => ?_)
    go_simp
    refine hKo _ _ ?_
    clear hKo Ko
    try simp only [Act.put, nm1, nm2, nm3, i64_w]
    refine wpList_plain rfl (fun Ko hKo => ?_)
    go_simp
    refine hKo _ _ ?_
    clear hKo Ko
    try simp only [Act.put, nm1, nm2, nm3, i64_w]
    refine wpList_plain rfl (fun Ko hKo => ?_)
    go_simp
    refine hKo _ _ ?_
    clear hKo Ko
    try simp only [Act.put, nm1, nm2, nm3, i64_w]
    refine wpList_nil ?_
    (try simp only [Exit.then, Exit.inBlock, ↓reduceIte, Nat.reduceEqDiff])
    refine hK79 _ _ ?_
    refine wp_ret ?_
    (try simp only [Exit.then, Exit.inBlock, ↓reduceIte, Nat.reduceEqDiff])
    refine hQf _ _ _ ?_
    exact bodyPost_ret (v := .tuple #[.slice P32 x31.length q33, .int .i64 0]) (by first | rfl | (simp [results, Try.results38, go_sem]; done) | (simp [results, Try.results38, go_sem]; rfl)) rfl ⟨P32, q33, rfl, (h38.lower ((Nat.le_trans ((Nat.le_trans ((Nat.le_trans (hu4.out.size) hu9.out.size)) hu13.out.size)) hu22.out.size))), ((((hu4.out.trans hu9.out).trans hu13.out).trans hu22.out).trans hu35.out)⟩
 ·
  rw [if_neg c15] at H
  replace c15 := Bool.eq_false_iff.mpr c15
  have c15n : (t10 != 0) = true := by rw [bne, c15]; rfl
  have c15p : ¬ t10 = 0 := fun e => by simp [e] at c15
  simp only [Option.some.injEq, Prod.mk.injEq] at H
  obtain ⟨rfl, rfl⟩ := H
  try simp only [c15, c15n, Bool.not_true, Bool.not_false]
  refine wp_cond_true rfl ?_
  refine wp_seq_k (fun K80 hK80 => ?_)
  refine wp_region_lit ?_
  refine wpList_plain rfl (fun Ko hKo => ?_)
  go_simp
  refine hKo _ _ ?_
  clear hKo Ko
  try simp only [Act.put, nm1, nm2, nm3, i64_w]
  refine wpList_plain rfl (fun Ko hKo => ?_)
  go_simp
  refine hKo _ _ ?_
  clear hKo Ko
  try simp only [Act.put, nm1, nm2, nm3, i64_w]
  refine wpList_plain rfl (fun Ko hKo => ?_)
  go_simp
  refine hKo _ _ ?_
  clear hKo Ko
  try simp only [Act.put, nm1, nm2, nm3, i64_w]
  refine wpList_nil ?_
  (try simp only [Exit.then, Exit.inBlock, ↓reduceIte, Nat.reduceEqDiff])
  refine hK80 _ _ ?_
  refine wp_ret ?_
  have h82 : Own e6 30 w12 w12.heap.size (.slice none ([] : List (Int × Int × Int × Int × Int × Int)).length 0) [] := Own.nil
  (try simp only [Exit.then, Exit.inBlock, ↓reduceIte, Nat.reduceEqDiff])
  refine hQf _ _ _ ?_
  exact bodyPost_ret (v := .tuple #[.slice none 0 0, .int .i64 t10]) (by first | rfl | (simp [results, Try.results38, go_sem]; done) | (simp [results, Try.results38, go_sem]; rfl)) rfl ⟨none, 0, rfl, (h82.lower ((Nat.le_trans ((Nat.le_trans (hu4.out.size) hu9.out.size)) hu13.out.size))), ((hu4.out.trans hu9.out).trans hu13.out)⟩

set_option maxHeartbeats 40000000 in
set_option maxRecDepth 100000 in
theorem impl_IsField.calls (K : Nat) (a0 : Int) (r0 : Bool) (w : World)  (h : impl_IsField.f K a0 = some (r0)) :
    Calls Try.prog 110 #[.int .i64 a0] w fun e w' => e = .returned (.bool r0) ∧ Up w w' := by
 have H : ((if (a0 == 3) = true then some true else (if (a0 == 5) = true then some true else (if (a0 == 7) = true then some true else (if (a0 == 11) = true then some true else (if (a0 == 13) = true then some true else (if (a0 == 17) = true then some true else (if (a0 == 19) = true then some true else (if (a0 == 23) = true then some true else (if (a0 == 29) = true then some true else (if (a0 == 31) = true then some true else some false)))))))))) : Option (Bool)) = some (r0) := h
 clear h
 go_enter Try.func110, Try.ntmps110
 refine wp_hide (fun Qf hQf => ?_)
 refine wp_seq_k (fun K1 hK1 => ?_)
 refine wp_region_lit ?_
 refine wpList_plain rfl (fun Ko hKo => ?_)
 go_simp
 refine hKo _ _ ?_
 clear hKo Ko
 try simp only [Act.put, nm1, nm2, nm3, i64_w]
 refine wpList_nil ?_
 (try simp only [Exit.then, Exit.inBlock, ↓reduceIte, Nat.reduceEqDiff])
 refine hK1 _ _ ?_
 refine wp_seq_k (fun K2 hK2 => ?_)
 refine wp_seq_k (fun K3 hK3 => ?_)
 refine wp_region_lit ?_
 refine wpList_plain rfl (fun Ko hKo => ?_)
 go_simp
 refine hKo _ _ ?_
 clear hKo Ko
 try simp only [Act.put, nm1, nm2, nm3, i64_w]
 refine wpList_nil ?_
 (try simp only [Exit.then, Exit.inBlock, ↓reduceIte, Nat.reduceEqDiff])
 refine hK3 _ _ ?_
 refine wp_block ?_
 refine wp_seq_k (fun K4 hK4 => ?_)
 refine wp_seq_k (fun K5 hK5 => ?_)
 refine wp_region_lit ?_
 refine wpList_plain rfl (fun Ko hKo => ?_)
 go_simp
 refine hKo _ _ ?_
 clear hKo Ko
 try simp only [Act.put, nm1, nm2, nm3, i64_w]
 refine wpList_plain rfl (fun Ko hKo => ?_)
 go_simp
 refine hKo _ _ ?_
 clear hKo Ko
 try simp only [Act.put, nm1, nm2, nm3, i64_w]
 refine wpList_nil ?_
 (try simp only [Exit.then, Exit.inBlock, ↓reduceIte, Nat.reduceEqDiff])
 refine hK5 _ _ ?_
 by_cases c6 : (a0 == 3) = true
 ·
  rw [if_pos c6] at H
  have c6n : (a0 != 3) = false := by rw [bne, c6]; rfl
  obtain rfl := Option.some.inj H
  try simp only [c6, c6n, Bool.not_true, Bool.not_false]
  refine wp_cond_true rfl ?_
  refine wp_skip ?_
  (try simp only [Exit.then, Exit.inBlock, ↓reduceIte, Nat.reduceEqDiff])
  refine hK4 _ _ ?_
  refine wp_cond_true rfl ?_
  refine wp_seq_k (fun K7 hK7 => ?_)
  refine wp_region_lit ?_
  refine wpList_plain rfl (fun Ko hKo => ?_)
  go_simp
  refine hKo _ _ ?_
  clear hKo Ko
  try simp only [Act.put, nm1, nm2, nm3, i64_w]
  refine wpList_nil ?_
  (try simp only [Exit.then, Exit.inBlock, ↓reduceIte, Nat.reduceEqDiff])
  refine hK7 _ _ ?_
  refine wp_ret ?_
  (try simp only [Exit.then, Exit.inBlock, ↓reduceIte, Nat.reduceEqDiff])
  refine hQf _ _ _ ?_
  exact bodyPost_ret (v := .bool true) (by first | rfl | (simp [results, Try.results110, go_sem]; done) | (simp [results, Try.results110, go_sem]; rfl)) rfl ⟨rfl, (Up.refl _)⟩
 ·
  rw [if_neg c6] at H
  replace c6 := Bool.eq_false_iff.mpr c6
  have c6n : (a0 != 3) = true := by rw [bne, c6]; rfl
  have c6p : ¬ a0 = 3 := fun e => by simp [e] at c6
  try simp only [c6, c6n, Bool.not_true, Bool.not_false]
  refine wp_cond_false rfl ?_
  refine wp_seq_k (fun K8 hK8 => ?_)
  refine wp_region_lit ?_
  refine wpList_plain rfl (fun Ko hKo => ?_)
  go_simp
  refine hKo _ _ ?_
  clear hKo Ko
  try simp only [Act.put, nm1, nm2, nm3, i64_w]
  refine wpList_plain rfl (fun Ko hKo => ?_)
  go_simp
  refine hKo _ _ ?_
  clear hKo Ko
  try simp only [Act.put, nm1, nm2, nm3, i64_w]
  refine wpList_nil ?_
  (try simp only [Exit.then, Exit.inBlock, ↓reduceIte, Nat.reduceEqDiff])
  refine hK8 _ _ ?_
  by_cases c9 : (a0 == 5) = true
  ·
   rw [if_pos c9] at H
   have c9n : (a0 != 5) = false := by rw [bne, c9]; rfl
   obtain rfl := Option.some.inj H
   try simp only [c9, c9n, Bool.not_true, Bool.not_false]
   refine wp_cond_true rfl ?_
   refine wp_skip ?_
   (try simp only [Exit.then, Exit.inBlock, ↓reduceIte, Nat.reduceEqDiff])
   refine hK4 _ _ ?_
   refine wp_cond_true rfl ?_
   refine wp_seq_k (fun K10 hK10 => ?_)
   refine wp_region_lit ?_
   refine wpList_plain rfl (fun Ko hKo => ?_)
   go_simp
   refine hKo _ _ ?_
   clear hKo Ko
   try simp only [Act.put, nm1, nm2, nm3, i64_w]
   refine wpList_nil ?_
   (try simp only [Exit.then, Exit.inBlock, ↓reduceIte, Nat.reduceEqDiff])
   refine hK10 _ _ ?_
   refine wp_ret ?_
   (try simp only [Exit.then, Exit.inBlock, ↓reduceIte, Nat.reduceEqDiff])
   refine hQf _ _ _ ?_
   exact bodyPost_ret (v := .bool true) (by first | rfl | (simp [results, Try.results110, go_sem]; done) | (simp [results, Try.results110, go_sem]; rfl)) rfl ⟨rfl, (Up.refl _)⟩
  ·
   rw [if_neg c9] at H
   replace c9 := Bool.eq_false_iff.mpr c9
   have c9n : (a0 != 5) = true := by rw [bne, c9]; rfl
   have c9p : ¬ a0 = 5 := fun e => by simp [e] at c9
   try simp only [c9, c9n, Bool.not_true, Bool.not_false]
   refine wp_cond_false rfl ?_
   refine wp_seq_k (fun K11 hK11 => ?_)
   refine wp_region_lit ?_
   refine wpList_plain rfl (fun Ko hKo => ?_)
   go_simp
   refine hKo _ _ ?_
   clear hKo Ko
   try simp only [Act.put, nm1, nm2, nm3, i64_w]
   refine wpList_plain rfl (fun Ko hKo => ?_)
   go_simp
   refine hKo _ _ ?_
   clear hKo Ko
   try simp only [Act.put, nm1, nm2, nm3, i64_w]
   refine wpList_nil ?_
   (try simp only [Exit.then, Exit.inBlock, ↓reduceIte, Nat.reduceEqDiff])
   refine hK11 _ _ ?_
   by_cases c12 : (a0 == 7) = true
   ·
    rw [if_pos c12] at H
    have c12n : (a0 != 7) = false := by rw [bne, c12]; rfl
    obtain rfl := Option.some.inj H
    try simp only [c12, c12n, Bool.not_true, Bool.not_false]
    refine wp_cond_true rfl ?_
    refine wp_skip ?_
    (try simp only [Exit.then, Exit.inBlock, ↓reduceIte, Nat.reduceEqDiff])
    refine hK4 _ _ ?_
    refine wp_cond_true rfl ?_
    refine wp_seq_k (fun K13 hK13 => ?_)
    refine wp_region_lit ?_
    refine wpList_plain rfl (fun Ko hKo => ?_)
    go_simp
    refine hKo _ _ ?_
    clear hKo Ko
    try simp only [Act.put, nm1, nm2, nm3, i64_w]
    refine wpList_nil ?_
    (try simp only [Exit.then, Exit.inBlock, ↓reduceIte, Nat.reduceEqDiff])
    refine hK13 _ _ ?_
    refine wp_ret ?_
    (try simp only [Exit.then, Exit.inBlock, ↓reduceIte, Nat.reduceEqDiff])
    refine hQf _ _ _ ?_
    exact bodyPost_ret (v := .bool true) (by first | rfl | (simp [results, Try.results110, go_sem]; done) | (simp [results, Try.results110, go_sem]; rfl)) rfl ⟨rfl, (Up.refl _)⟩
   ·
    rw [if_neg c12] at H
    replace c12 := Bool.eq_false_iff.mpr c12
    have c12n : (a0 != 7) = true := by rw [bne, c12]; rfl
    have c12p : ¬ a0 = 7 := fun e => by simp [e] at c12
    try simp only [c12, c12n, Bool.not_true, Bool.not_false]
    refine wp_cond_false rfl ?_
    refine wp_seq_k (fun K14 hK14 => ?_)
    refine wp_region_lit ?_
    refine wpList_plain rfl (fun Ko hKo => ?_)
    go_simp
    refine hKo _ _ ?_
    clear hKo Ko
    try simp only [Act.put, nm1, nm2, nm3, i64_w]
    refine wpList_plain rfl (fun Ko hKo => ?_)
    go_simp
    refine hKo _ _ ?_
    clear hKo Ko
    try simp only [Act.put, nm1, nm2, nm3, i64_w]
    refine wpList_nil ?_
    (try simp only [Exit.then, Exit.inBlock, ↓reduceIte, Nat.reduceEqDiff])
    refine hK14 _ _ ?_
    by_cases c15 : (a0 == 11) = true
    ·
     rw [if_pos c15] at H
     have c15n : (a0 != 11) = false := by rw [bne, c15]; rfl
     obtain rfl := Option.some.inj H
     try simp only [c15, c15n, Bool.not_true, Bool.not_false]
     refine wp_cond_true rfl ?_
     refine wp_skip ?_
     (try simp only [Exit.then, Exit.inBlock, ↓reduceIte, Nat.reduceEqDiff])
     refine hK4 _ _ ?_
     refine wp_cond_true rfl ?_
     refine wp_seq_k (fun K16 hK16 => ?_)
     refine wp_region_lit ?_
     refine wpList_plain rfl (fun Ko hKo => ?_)
     go_simp
     refine hKo _ _ ?_
     clear hKo Ko
     try simp only [Act.put, nm1, nm2, nm3, i64_w]
     refine wpList_nil ?_
     (try simp only [Exit.then, Exit.inBlock, ↓reduceIte, Nat.reduceEqDiff])
     refine hK16 _ _ ?_
     refine wp_ret ?_
     (try simp only [Exit.then, Exit.inBlock, ↓reduceIte, Nat.reduceEqDiff])
     refine hQf _ _ _ ?_
     exact bodyPost_ret (v := .bool true) (by first | rfl | (simp [results, Try.results110, go_sem]; done) | (simp [results, Try.results110, go_sem]; rfl)) rfl ⟨rfl, (Up.refl _)⟩
    ·
     rw [if_neg c15] at H
     replace c15 := Bool.eq_false_iff.mpr c15
     have c15n : (a0 != 11) = true := by rw [bne, c15]; rfl
     have c15p : ¬ a0 = 11 := fun e => by simp [e] at c15
     try simp only [c15, c15n, Bool.not_true, Bool.not_false]
     refine wp_cond_false rfl ?_
     refine wp_seq_k (fun K17 hK17 => ?_)
     refine wp_region_lit ?_
     refine wpList_plain rfl (fun Ko hKo => ?_)
     go_simp
     refine hKo _ _ ?_
     clear hKo Ko
     try simp only [Act.put, nm1, nm2, nm3, i64_w]
     refine wpList_plain rfl (fun Ko hKo => ?_)
     go_simp
     refine hKo _ _ ?_
     clear hKo Ko
     try simp only [Act.put, nm1, nm2, nm3, i64_w]
     refine wpList_nil ?_
     (try simp only [Exit.then, Exit.inBlock, ↓reduceIte, Nat.reduceEqDiff])
     refine hK17 _ _ ?_
     by_cases c18 : (a0 == 13) = true
     ·
      rw [if_pos c18] at H
      have c18n : (a0 != 13) = false := by rw [bne, c18]; rfl
      obtain rfl := Option.some.inj H
      try simp only [c18, c18n, Bool.not_true, Bool.not_false]
      refine wp_cond_true rfl ?_
      refine wp_skip ?_
      (try simp only [Exit.then, Exit.inBlock, ↓reduceIte, Nat.reduceEqDiff])
      refine hK4 _ _ ?_
      refine wp_cond_true rfl ?_
      refine wp_seq_k (fun K19 hK19 => ?_)
      refine wp_region_lit ?_
      refine wpList_plain rfl (fun Ko hKo => ?_)
      go_simp
      refine hKo _ _ ?_
      clear hKo Ko
      try simp only [Act.put, nm1, nm2, nm3, i64_w]
      refine wpList_nil ?_
      (try simp only [Exit.then, Exit.inBlock, ↓reduceIte, Nat.reduceEqDiff])
      refine hK19 _ _ ?_
      refine wp_ret ?_
      (try simp only [Exit.then, Exit.inBlock, ↓reduceIte, Nat.reduceEqDiff])
      refine hQf _ _ _ ?_
      exact bodyPost_ret (v := .bool true) (by first | rfl | (simp [results, Try.results110, go_sem]; done) | (simp [results, Try.results110, go_sem]; rfl)) rfl ⟨rfl, (Up.refl _)⟩
     ·
      rw [if_neg c18] at H
      replace c18 := Bool.eq_false_iff.mpr c18
      have c18n : (a0 != 13) = true := by rw [bne, c18]; rfl
      have c18p : ¬ a0 = 13 := fun e => by simp [e] at c18
      try simp only [c18, c18n, Bool.not_true, Bool.not_false]
      refine wp_cond_false rfl ?_
      refine wp_seq_k (fun K20 hK20 => ?_)
      refine wp_region_lit ?_
      refine wpList_plain rfl (fun Ko hKo => ?_)
      go_simp
      refine hKo _ _ ?_
      clear hKo Ko
      try simp only [Act.put, nm1, nm2, nm3, i64_w]
      refine wpList_plain rfl (fun Ko hKo => ?_)
      go_simp
      refine hKo _ _ ?_
      clear hKo Ko
      try simp only [Act.put, nm1, nm2, nm3, i64_w]
      refine wpList_nil ?_
      (try simp only [Exit.then, Exit.inBlock, ↓reduceIte, Nat.reduceEqDiff])
      refine hK20 _ _ ?_
      by_cases c21 : (a0 == 17) = true
      ·
       rw [if_pos c21] at H
       have c21n : (a0 != 17) = false := by rw [bne, c21]; rfl
       obtain rfl := Option.some.inj H
       try simp only [c21, c21n, Bool.not_true, Bool.not_false]
       refine wp_cond_true rfl ?_
       refine wp_skip ?_
       (try simp only [Exit.then, Exit.inBlock, ↓reduceIte, Nat.reduceEqDiff])
       refine hK4 _ _ ?_
       refine wp_cond_true rfl ?_
       refine wp_seq_k (fun K22 hK22 => ?_)
       refine wp_region_lit ?_
       refine wpList_plain rfl (fun Ko hKo => ?_)
       go_simp
       refine hKo _ _ ?_
       clear hKo Ko
       try simp only [Act.put, nm1, nm2, nm3, i64_w]
       refine wpList_nil ?_
       (try simp only [Exit.then, Exit.inBlock, ↓reduceIte, Nat.reduceEqDiff])
       refine hK22 _ _ ?_
       refine wp_ret ?_
       (try simp only [Exit.then, Exit.inBlock, ↓reduceIte, Nat.reduceEqDiff])
       refine hQf _ _ _ ?_
       exact bodyPost_ret (v := .bool true) (by first | rfl | (simp [results, Try.results110, go_sem]; done) | (simp [results, Try.results110, go_sem]; rfl)) rfl ⟨rfl, (Up.refl _)⟩
      ·
       rw [if_neg c21] at H
       replace c21 := Bool.eq_false_iff.mpr c21
       have c21n : (a0 != 17) = true := by rw [bne, c21]; rfl
       have c21p : ¬ a0 = 17 := fun e => by simp [e] at c21
       try simp only [c21, c21n, Bool.not_true, Bool.not_false]
       refine wp_cond_false rfl ?_
       refine wp_seq_k (fun K23 hK23 => ?_)
       refine wp_region_lit ?_
       refine wpList_plain rfl (fun Ko hKo => ?_)
       go_simp
       refine hKo _ _ ?_
       clear hKo Ko
       try simp only [Act.put, nm1, nm2, nm3, i64_w]
       refine wpList_plain rfl (fun Ko hKo => ?_)
       go_simp
       refine hKo _ _ ?_
       clear hKo Ko
       try simp only [Act.put, nm1, nm2, nm3, i64_w]
       refine wpList_nil ?_
       (try simp only [Exit.then, Exit.inBlock, ↓reduceIte, Nat.reduceEqDiff])
       refine hK23 _ _ ?_
       by_cases c24 : (a0 == 19) = true
       ·
        rw [if_pos c24] at H
        have c24n : (a0 != 19) = false := by rw [bne, c24]; rfl
        obtain rfl := Option.some.inj H
        try simp only [c24, c24n, Bool.not_true, Bool.not_false]
        refine wp_cond_true rfl ?_
        refine wp_skip ?_
        (try simp only [Exit.then, Exit.inBlock, ↓reduceIte, Nat.reduceEqDiff])
        refine hK4 _ _ ?_
        refine wp_cond_true rfl ?_
        refine wp_seq_k (fun K25 hK25 => ?_)
        refine wp_region_lit ?_
        refine wpList_plain rfl (fun Ko hKo => ?_)
        go_simp
        refine hKo _ _ ?_
        clear hKo Ko
        try simp only [Act.put, nm1, nm2, nm3, i64_w]
        refine wpList_nil ?_
        (try simp only [Exit.then, Exit.inBlock, ↓reduceIte, Nat.reduceEqDiff])
        refine hK25 _ _ ?_
        refine wp_ret ?_
        (try simp only [Exit.then, Exit.inBlock, ↓reduceIte, Nat.reduceEqDiff])
        refine hQf _ _ _ ?_
        exact bodyPost_ret (v := .bool true) (by first | rfl | (simp [results, Try.results110, go_sem]; done) | (simp [results, Try.results110, go_sem]; rfl)) rfl ⟨rfl, (Up.refl _)⟩
       ·
        rw [if_neg c24] at H
        replace c24 := Bool.eq_false_iff.mpr c24
        have c24n : (a0 != 19) = true := by rw [bne, c24]; rfl
        have c24p : ¬ a0 = 19 := fun e => by simp [e] at c24
        try simp only [c24, c24n, Bool.not_true, Bool.not_false]
        refine wp_cond_false rfl ?_
        refine wp_seq_k (fun K26 hK26 => ?_)
        refine wp_region_lit ?_
        refine wpList_plain rfl (fun Ko hKo => ?_)
        go_simp
        refine hKo _ _ ?_
        clear hKo Ko
        try simp only [Act.put, nm1, nm2, nm3, i64_w]
        refine wpList_plain rfl (fun Ko hKo => ?_)
        go_simp
        refine hKo _ _ ?_
        clear hKo Ko
        try simp only [Act.put, nm1, nm2, nm3, i64_w]
        refine wpList_nil ?_
        (try simp only [Exit.then, Exit.inBlock, ↓reduceIte, Nat.reduceEqDiff])
        refine hK26 _ _ ?_
        by_cases c27 : (a0 == 23) = true
        ·
         rw [if_pos c27] at H
         have c27n : (a0 != 23) = false := by rw [bne, c27]; rfl
         obtain rfl := Option.some.inj H
         try simp only [c27, c27n, Bool.not_true, Bool.not_false]
         refine wp_cond_true rfl ?_
         refine wp_skip ?_
         (try simp only [Exit.then, Exit.inBlock, ↓reduceIte, Nat.reduceEqDiff])
         refine hK4 _ _ ?_
         refine wp_cond_true rfl ?_
         refine wp_seq_k (fun K28 hK28 => ?_)
         refine wp_region_lit ?_
         refine wpList_plain rfl (fun Ko hKo => ?_)
         go_simp
         refine hKo _ _ ?_
         clear hKo Ko
         try simp only [Act.put, nm1, nm2, nm3, i64_w]
         refine wpList_nil ?_
         (try simp only [Exit.then, Exit.inBlock, ↓reduceIte, Nat.reduceEqDiff])
         refine hK28 _ _ ?_
         refine wp_ret ?_
         (try simp only [Exit.then, Exit.inBlock, ↓reduceIte, Nat.reduceEqDiff])
         refine hQf _ _ _ ?_
         exact bodyPost_ret (v := .bool true) (by first | rfl | (simp [results, Try.results110, go_sem]; done) | (simp [results, Try.results110, go_sem]; rfl)) rfl ⟨rfl, (Up.refl _)⟩
        ·
         rw [if_neg c27] at H
         replace c27 := Bool.eq_false_iff.mpr c27
         have c27n : (a0 != 23) = true := by rw [bne, c27]; rfl
         have c27p : ¬ a0 = 23 := fun e => by simp [e] at c27
         try simp only [c27, c27n, Bool.not_true, Bool.not_false]
         refine wp_cond_false rfl ?_
         refine wp_seq_k (fun K29 hK29 => ?_)
         refine wp_region_lit ?_
         refine wpList_plain rfl (fun Ko hKo => ?_)
         go_simp
         refine hKo _ _ ?_
         clear hKo Ko
         try simp only [Act.put, nm1, nm2, nm3, i64_w]
         refine wpList_plain rfl (fun Ko hKo => ?_)
         go_simp
         refine hKo _ _ ?_
         clear hKo Ko
         try simp only [Act.put, nm1, nm2, nm3, i64_w]
         refine wpList_nil ?_
         (try simp only [Exit.then, Exit.inBlock, ↓reduceIte, Nat.reduceEqDiff])
         refine hK29 _ _ ?_
         by_cases c30 : (a0 == 29) = true
         ·
          rw [if_pos c30] at H
          have c30n : (a0 != 29) = false := by rw [bne, c30]; rfl
          obtain rfl := Option.some.inj H
          try simp only [c30, c30n, Bool.not_true, Bool.not_false]
          refine wp_cond_true rfl ?_
          refine wp_skip ?_
          (try simp only [Exit.then, Exit.inBlock, ↓reduceIte, Nat.reduceEqDiff])
          refine hK4 _ _ ?_
          refine wp_cond_true rfl ?_
          refine wp_seq_k (fun K31 hK31 => ?_)
          refine wp_region_lit ?_
          refine wpList_plain rfl (fun Ko hKo => ?_)
          go_simp
          refine hKo _ _ ?_
          clear hKo Ko
          try simp only [Act.put, nm1, nm2, nm3, i64_w]
          refine wpList_nil ?_
          (try simp only [Exit.then, Exit.inBlock, ↓reduceIte, Nat.reduceEqDiff])
          refine hK31 _ _ ?_
          refine wp_ret ?_
          (try simp only [Exit.then, Exit.inBlock, ↓reduceIte, Nat.reduceEqDiff])
          refine hQf _ _ _ ?_
          exact bodyPost_ret (v := .bool true) (by first | rfl | (simp [results, Try.results110, go_sem]; done) | (simp [results, Try.results110, go_sem]; rfl)) rfl ⟨rfl, (Up.refl _)⟩
         ·
          rw [if_neg c30] at H
          replace c30 := Bool.eq_false_iff.mpr c30
          have c30n : (a0 != 29) = true := by rw [bne, c30]; rfl
          have c30p : ¬ a0 = 29 := fun e => by simp [e] at c30
          try simp only [c30, c30n, Bool.not_true, Bool.not_false]
          refine wp_cond_false rfl ?_
          refine wp_region_lit ?_
          refine wpList_plain rfl (fun Ko hKo => ?_)
          go_simp
          refine hKo _ _ ?_
          clear hKo Ko
          try simp only [Act.put, nm1, nm2, nm3, i64_w]
          refine wpList_plain rfl (fun Ko hKo => ?_)
          go_simp
          refine hKo _ _ ?_
          clear hKo Ko
          try simp only [Act.put, nm1, nm2, nm3, i64_w]
          refine wpList_nil ?_
          (try simp only [Exit.then, Exit.inBlock, ↓reduceIte, Nat.reduceEqDiff])
          refine hK4 _ _ ?_
          by_cases c32 : (a0 == 31) = true
          ·
           rw [if_pos c32] at H
           have c32n : (a0 != 31) = false := by rw [bne, c32]; rfl
           obtain rfl := Option.some.inj H
           try simp only [c32, c32n, Bool.not_true, Bool.not_false]
           refine wp_cond_true rfl ?_
           refine wp_seq_k (fun K33 hK33 => ?_)
           refine wp_region_lit ?_
           refine wpList_plain rfl (fun Ko hKo => ?_)
           go_simp
           refine hKo _ _ ?_
           clear hKo Ko
           try simp only [Act.put, nm1, nm2, nm3, i64_w]
           refine wpList_nil ?_
           (try simp only [Exit.then, Exit.inBlock, ↓reduceIte, Nat.reduceEqDiff])
           refine hK33 _ _ ?_
           refine wp_ret ?_
           (try simp only [Exit.then, Exit.inBlock, ↓reduceIte, Nat.reduceEqDiff])
           refine hQf _ _ _ ?_
           exact bodyPost_ret (v := .bool true) (by first | rfl | (simp [results, Try.results110, go_sem]; done) | (simp [results, Try.results110, go_sem]; rfl)) rfl ⟨rfl, (Up.refl _)⟩
          ·
           rw [if_neg c32] at H
           replace c32 := Bool.eq_false_iff.mpr c32
           have c32n : (a0 != 31) = true := by rw [bne, c32]; rfl
           have c32p : ¬ a0 = 31 := fun e => by simp [e] at c32
           obtain rfl := Option.some.inj H
           try simp only [c32, c32n, Bool.not_true, Bool.not_false]
           refine wp_cond_false rfl ?_
           refine wp_skip ?_
           (try simp only [Exit.then, Exit.inBlock, ↓reduceIte, Nat.reduceEqDiff])
           refine hK2 _ _ ?_
           refine wp_seq_k (fun K34 hK34 => ?_)
           refine wp_region_lit ?_
           refine wpList_plain rfl (fun Ko hKo => ?_)
           go_simp
           refine hKo _ _ ?_
           clear hKo Ko
           try simp only [Act.put, nm1, nm2, nm3, i64_w]
           refine wpList_nil ?_
           (try simp only [Exit.then, Exit.inBlock, ↓reduceIte, Nat.reduceEqDiff])
           refine hK34 _ _ ?_
           refine wp_ret ?_
           (try simp only [Exit.then, Exit.inBlock, ↓reduceIte, Nat.reduceEqDiff])
           refine hQf _ _ _ ?_
           exact bodyPost_ret (v := .bool false) (by first | rfl | (simp [results, Try.results110, go_sem]; done) | (simp [results, Try.results110, go_sem]; rfl)) rfl ⟨rfl, (Up.refl _)⟩

set_option maxHeartbeats 40000000 in
set_option maxRecDepth 100000 in
theorem impl_isColour.calls (K : Nat) (a0 : Int) (r0 : Bool) (w : World)  (h : impl_isColour.f K a0 = some (r0)) :
    Calls Try.prog 56 #[.int .i64 a0] w fun e w' => e = .returned (.bool r0) ∧ Up w w' := by
 have H : ((if decide (0 ≤ a0) = true then some (decide (a0 ≤ 2)) else some false) : Option (Bool)) = some (r0) := h
 clear h
 go_enter Try.func56, Try.ntmps56
 refine wp_hide (fun Qf hQf => ?_)
 refine wp_seq_k (fun K1 hK1 => ?_)
 refine wp_region_lit ?_
 refine wpList_plain rfl (fun Ko hKo => ?_)
 go_simp
 refine hKo _ _ ?_
 clear hKo Ko
 try simp only [Act.put, nm1, nm2, nm3, i64_w]
 refine wpList_nil ?_
 (try simp only [Exit.then, Exit.inBlock, ↓reduceIte, Nat.reduceEqDiff])
 refine hK1 _ _ ?_
 refine wp_seq_k (fun K2 hK2 => ?_)
 refine wp_region_lit ?_
 refine wpList_plain rfl (fun Ko hKo => ?_)
 go_simp
 refine hKo _ _ ?_
 clear hKo Ko
 try simp only [Act.put, nm1, nm2, nm3, i64_w]
 refine wpList_plain rfl (fun Ko hKo => ?_)
 go_simp
 refine hKo _ _ ?_
 clear hKo Ko
 try simp only [Act.put, nm1, nm2, nm3, i64_w]
 refine wpList_plain rfl (fun Ko hKo => ?_)
 go_simp
 refine hKo _ _ ?_
 clear hKo Ko
 try simp only [Act.put, nm1, nm2, nm3, i64_w]
 by_cases c3 : (decide (0 ≤ a0)) = true
 ·
  rw [if_pos c3] at H
  obtain rfl := Option.some.inj H
  try simp only [c3, Bool.not_true, Bool.not_false]
  refine wpList_step (fun Ko hKo => ?_)
  go_simp
  refine hKo _ _ ?_
  clear hKo Ko
  try simp only [Act.put, nm1, nm2, nm3, i64_w]
  refine wpList_step (fun Ko hKo => ?_)
  go_simp
  refine hKo _ _ ?_
  clear hKo Ko
  try simp only [Act.put, nm1, nm2, nm3, i64_w]
  refine wpList_plain rfl (fun Ko hKo => ?_)
  go_simp
  refine hKo _ _ ?_
  clear hKo Ko
  try simp only [Act.put, nm1, nm2, nm3, i64_w]
  refine wpList_plain rfl (fun Ko hKo => ?_)
  go_simp
  refine hKo _ _ ?_
  clear hKo Ko
  try simp only [Act.put, nm1, nm2, nm3, i64_w]
  refine wpList_nil ?_
  (try simp only [Exit.then, Exit.inBlock, ↓reduceIte, Nat.reduceEqDiff])
  refine hK2 _ _ ?_
  refine wp_ret ?_
  (try simp only [Exit.then, Exit.inBlock, ↓reduceIte, Nat.reduceEqDiff])
  refine hQf _ _ _ ?_
  exact bodyPost_ret (v := .bool (decide (a0 ≤ 2))) (by first | rfl | (simp [results, Try.results56, go_sem]; done) | (simp [results, Try.results56, go_sem]; rfl)) rfl ⟨rfl, (Up.refl _)⟩
 ·
  rw [if_neg c3] at H
  replace c3 := Bool.eq_false_iff.mpr c3
  obtain rfl := Option.some.inj H
  try simp only [c3, Bool.not_true, Bool.not_false]
  refine step_no rfl ?_
  simp only [Act.put, nm1, nm2, nm3, i64_w]
  refine step_no rfl ?_
  simp only [Act.put, nm1, nm2, nm3, i64_w]
  refine wpList_plain rfl (fun Ko hKo => ?_)
  go_simp
  refine hKo _ _ ?_
  clear hKo Ko
  try simp only [Act.put, nm1, nm2, nm3, i64_w]
  refine wpList_plain rfl (fun Ko hKo => ?_)
  go_simp
  refine hKo _ _ ?_
  clear hKo Ko
  try simp only [Act.put, nm1, nm2, nm3, i64_w]
  refine wpList_nil ?_
  (try simp only [Exit.then, Exit.inBlock, ↓reduceIte, Nat.reduceEqDiff])
  refine hK2 _ _ ?_
  refine wp_ret ?_
  (try simp only [Exit.then, Exit.inBlock, ↓reduceIte, Nat.reduceEqDiff])
  refine hQf _ _ _ ?_
  exact bodyPost_ret (v := .bool false) (by first | rfl | (simp [results, Try.results56, go_sem]; done) | (simp [results, Try.results56, go_sem]; rfl)) rfl ⟨rfl, (Up.refl _)⟩

set_option maxHeartbeats 40000000 in
set_option maxRecDepth 100000 in
theorem impl_isNumber.calls (K : Nat) (a0 : Int) (a1 : Int) (r0 : Bool) (w : World)  (h : impl_isNumber.f K a0 a1 = some (r0)) :
    Calls Try.prog 134 #[.int .i64 a0, .int .i64 a1] w fun e w' => e = .returned (.bool r0) ∧ Up w w' := by
 have H : ((if decide (0 ≤ a1) = true then some (decide (a1 < a0)) else some false) : Option (Bool)) = some (r0) := h
 clear h
 go_enter Try.func134, Try.ntmps134
 refine wp_hide (fun Qf hQf => ?_)
 refine wp_seq_k (fun K1 hK1 => ?_)
 refine wp_region_lit ?_
 refine wpList_plain rfl (fun Ko hKo => ?_)
 go_simp
 refine hKo _ _ ?_
 clear hKo Ko
 try simp only [Act.put, nm1, nm2, nm3, i64_w]
 refine wpList_nil ?_
 (try simp only [Exit.then, Exit.inBlock, ↓reduceIte, Nat.reduceEqDiff])
 refine hK1 _ _ ?_
 refine wp_seq_k (fun K2 hK2 => ?_)
 refine wp_region_lit ?_
 refine wpList_plain rfl (fun Ko hKo => ?_)
 go_simp
 refine hKo _ _ ?_
 clear hKo Ko
 try simp only [Act.put, nm1, nm2, nm3, i64_w]
 refine wpList_plain rfl (fun Ko hKo => ?_)
 go_simp
 refine hKo _ _ ?_
 clear hKo Ko
 try simp only [Act.put, nm1, nm2, nm3, i64_w]
 refine wpList_plain rfl (fun Ko hKo => ?_)
 go_simp
 refine hKo _ _ ?_
 clear hKo Ko
 try simp only [Act.put, nm1, nm2, nm3, i64_w]
 by_cases c3 : (decide (0 ≤ a1)) = true
 ·
  rw [if_pos c3] at H
  obtain rfl := Option.some.inj H
  try simp only [c3, Bool.not_true, Bool.not_false]
  refine wpList_step (fun Ko hKo => ?_)
  go_simp
  refine hKo _ _ ?_
  clear hKo Ko
  try simp only [Act.put, nm1, nm2, nm3, i64_w]
  refine wpList_step (fun Ko hKo => ?_)
  go_simp
  refine hKo _ _ ?_
  clear hKo Ko
  try simp only [Act.put, nm1, nm2, nm3, i64_w]
  refine wpList_step (fun Ko hKo => ?_)
  go_simp
  refine hKo _ _ ?_
  clear hKo Ko
  try simp only [Act.put, nm1, nm2, nm3, i64_w]
  refine wpList_plain rfl (fun Ko hKo => ?_)
  go_simp
  refine hKo _ _ ?_
  clear hKo Ko
  try simp only [Act.put, nm1, nm2, nm3, i64_w]
  refine wpList_plain rfl (fun Ko hKo => ?_)
  go_simp
  refine hKo _ _ ?_
  clear hKo Ko
  try simp only [Act.put, nm1, nm2, nm3, i64_w]
  refine wpList_nil ?_
  (try simp only [Exit.then, Exit.inBlock, ↓reduceIte, Nat.reduceEqDiff])
  refine hK2 _ _ ?_
  refine wp_ret ?_
  (try simp only [Exit.then, Exit.inBlock, ↓reduceIte, Nat.reduceEqDiff])
  refine hQf _ _ _ ?_
  exact bodyPost_ret (v := .bool (decide (a1 < a0))) (by first | rfl | (simp [results, Try.results134, go_sem]; done) | (simp [results, Try.results134, go_sem]; rfl)) rfl ⟨rfl, (Up.refl _)⟩
 ·
  rw [if_neg c3] at H
  replace c3 := Bool.eq_false_iff.mpr c3
  obtain rfl := Option.some.inj H
  try simp only [c3, Bool.not_true, Bool.not_false]
  refine step_no rfl ?_
  simp only [Act.put, nm1, nm2, nm3, i64_w]
  refine step_no rfl ?_
  simp only [Act.put, nm1, nm2, nm3, i64_w]
  refine step_no rfl ?_
  simp only [Act.put, nm1, nm2, nm3, i64_w]
  refine wpList_plain rfl (fun Ko hKo => ?_)
  go_simp
  refine hKo _ _ ?_
  clear hKo Ko
  try simp only [Act.put, nm1, nm2, nm3, i64_w]
  refine wpList_plain rfl (fun Ko hKo => ?_)
  go_simp
  refine hKo _ _ ?_
  clear hKo Ko
  try simp only [Act.put, nm1, nm2, nm3, i64_w]
  refine wpList_nil ?_
  (try simp only [Exit.then, Exit.inBlock, ↓reduceIte, Nat.reduceEqDiff])
  refine hK2 _ _ ?_
  refine wp_ret ?_
  (try simp only [Exit.then, Exit.inBlock, ↓reduceIte, Nat.reduceEqDiff])
  refine hQf _ _ _ ?_
  exact bodyPost_ret (v := .bool false) (by first | rfl | (simp [results, Try.results134, go_sem]; done) | (simp [results, Try.results134, go_sem]; rfl)) rfl ⟨rfl, (Up.refl _)⟩

set_option maxHeartbeats 40000000 in
set_option maxRecDepth 100000 in
theorem impl_areNumbers.calls (K : Nat) (a0 : Int) (a1_A : Option Addr) (a1_c : Nat) (a1 : List (Int)) (r0 : Bool) (w : World) (ha1 : Rd eI w a1_A a1) (h : impl_areNumbers.f K a0 a1 = some (r0)) :
    Calls Try.prog 111 #[.int .i64 a0, .slice a1_A a1.length a1_c] w fun e w' => e = .returned (.bool r0) ∧ Up w w' := by
 have H : ((impl_areNumbers.l0 K a0 a1 K 0) : Option (Bool)) = some (r0) := h
 clear h
 go_enter Try.func111, Try.ntmps111
 refine wp_hide (fun Qf hQf => ?_)
 refine wp_seq_k (fun K1 hK1 => ?_)
 refine wp_region_lit ?_
 refine wpList_plain rfl (fun Ko hKo => ?_)
 go_simp
 refine hKo _ _ ?_
 clear hKo Ko
 try simp only [Act.put, nm1, nm2, nm3, i64_w]
 refine wpList_nil ?_
 (try simp only [Exit.then, Exit.inBlock, ↓reduceIte, Nat.reduceEqDiff])
 refine hK1 _ _ ?_
 refine wp_seq_k (fun K2 hK2 => ?_)
 refine wp_seq_k (fun K3 hK3 => ?_)
 refine wp_region_lit ?_
 refine wpList_plain rfl (fun Ko hKo => ?_)
 go_simp
 refine hKo _ _ ?_
 clear hKo Ko
 try simp only [Act.put, nm1, nm2, nm3, i64_w]
 refine wpList_plain rfl (fun Ko hKo => ?_)
 go_simp
 refine hKo _ _ ?_
 clear hKo Ko
 try simp only [Act.put, nm1, nm2, nm3, i64_w]
 refine wpList_plain rfl (fun Ko hKo => ?_)
 go_simp
 refine hKo _ _ ?_
 clear hKo Ko
 try simp only [Act.put, nm1, nm2, nm3, i64_w]
 refine wpList_nil ?_
 (try simp only [Exit.then, Exit.inBlock, ↓reduceIte, Nat.reduceEqDiff])
 refine hK3 _ _ ?_
 refine wp_block ?_
 have HL8 := Aside0.mk H
 clear H
 go_loopg [9] K (fun kq v9 w' => ∃ (x4 : Int), v9 = .int .i64 x4 ∧ Aside0 (impl_areNumbers.l0 K a0 a1 kq x4 = some (r0)) ∧ Aside0 (kq ≤ K) ∧ Aside0 (Up w w') ∧ Aside0 (w.heap.size ≤ w'.heap.size))
 case atStart => exact ⟨0, (by first | rfl | simp), HL8, ⟨Nat.le_refl _⟩, ⟨(Up.refl _)⟩, ⟨Nat.le_refl _⟩⟩
 case round =>
  rename_i J12 K13 hJ12 hK13
  obtain ⟨x4, rfl, HL11, hk10, hu6, hz7⟩ := hrel
  obtain ⟨w5, rfl⟩ : ∃ wo : World, wo = wr := ⟨_, rfl⟩
  obtain ⟨k9, rfl⟩ | rfl : (∃ k, gk = k + 1) ∨ gk = 0 := by rcases gk with _ | k; exact .inr rfl; exact .inl ⟨k, rfl⟩
  case inr => exact absurd HL11.out (by simp [impl_areNumbers.l0])
  have H := HL11.out
  clear HL11
  rw [impl_areNumbers.l0] at H
  refine wp_seq_k (fun K14 hK14 => ?_)
  refine wp_region_lit ?_
  refine wpList_plain rfl (fun Ko hKo => ?_)
  go_simp
  refine hKo _ _ ?_
  clear hKo Ko
  try simp only [Act.put, nm1, nm2, nm3, i64_w]
  refine wpList_nil ?_
  (try simp only [Exit.then, Exit.inBlock, ↓reduceIte, Nat.reduceEqDiff])
  refine hK14 _ _ ?_
  refine wp_seq_k (fun K15 hK15 => ?_)
  by_cases c16 : (decide (x4 < (a1.length : Int))) = true
  ·
   rw [if_pos c16] at H
   replace H := Option.bind_eq_some_iff.mp H
   obtain ⟨t19, A20, H⟩ := H
   replace A20 := Aside0.mk A20
   try dsimp only at H
   replace H := Option.bind_eq_some_iff.mp H
   obtain ⟨t25, A26, H⟩ := H
   replace A26 := Aside0.mk A26
   try dsimp only at H
   try simp only [c16, Bool.not_true, Bool.not_false]
   refine wp_cond_true rfl ?_
   refine wp_skip ?_
   (try simp only [Exit.then, Exit.inBlock, ↓reduceIte, Nat.reduceEqDiff])
   refine hK15 _ _ ?_
   refine wp_seq_k (fun K17 hK17 => ?_)
   refine wp_block ?_
   refine wp_seq_k (fun K18 hK18 => ?_)
   refine wp_region_lit ?_
   refine step_index eI (T := 2) (wanted_none rfl) rfl (by kernel_rfl) (by kernel_rfl) rfl rfl rfl (ha1.up hu6.out) A20.out ?_
   intro ad21 hat he
   have he22 := Aside0.mk he
   have hat23 := Aside0.mk hat
   clear he hat
   simp only [Act.put, nm1, nm2, nm3, i64_w]
   have cl0 := he22.out 0 _ rfl
   rw [addr_add0] at cl0
   refine wpList_plain rfl (fun Ko hKo => ?_)
   go_simp
   refine hKo _ _ ?_
   clear hKo Ko
   clear cl0
   try simp only [Act.put, nm1, nm2, nm3, i64_w]
   refine wpList_plain rfl (fun Ko hKo => ?_)
   go_simp
   refine hKo _ _ ?_
   clear hKo Ko
   try simp only [Act.put, nm1, nm2, nm3, i64_w]
   refine wpList_nil ?_
   (try simp only [Exit.then, Exit.inBlock, ↓reduceIte, Nat.reduceEqDiff])
   refine hK18 _ _ ?_
   refine wp_seq_k (fun K24 hK24 => ?_)
   refine wp_region_lit ?_
   refine wpList_plain rfl (fun Ko hKo => ?_)
   go_simp
   refine hKo _ _ ?_
   clear hKo Ko
   try simp only [Act.put, nm1, nm2, nm3, i64_w]
   refine wpList_plain rfl (fun Ko hKo => ?_)
   go_simp
   refine hKo _ _ ?_
   clear hKo Ko
   try simp only [Act.put, nm1, nm2, nm3, i64_w]
   refine step_call (wanted_none rfl) (by first | (go_simp; done) | (go_simp; rfl)) (impl_isNumber.calls K a0 t19 t25 w5  A26.out) ?_
   rintro e w27 ⟨rfl, hu⟩
   have hu28 := Aside0.mk hu
   clear hu
   refine ⟨_, rfl, ?_⟩
   simp only [Act.put, nm1, nm2, nm3, i64_w]
   refine wpList_plain rfl (fun Ko hKo => ?_)
   go_simp
   refine hKo _ _ ?_
   clear hKo Ko
   try simp only [Act.put, nm1, nm2, nm3, i64_w]
   refine wpList_nil ?_
   (try simp only [Exit.then, Exit.inBlock, ↓reduceIte, Nat.reduceEqDiff])
   refine hK24 _ _ ?_
   by_cases c29 : (t25) = true
   ·
    rw [if_pos c29] at H
    subst c29
    have HL30 := Aside0.mk H
    clear H
    refine wp_cond_false rfl ?_
    refine wp_skip ?_
    (try simp only [Exit.then, Exit.inBlock, ↓reduceIte, Nat.reduceEqDiff])
    refine hK17 _ _ ?_
    refine wp_region_lit ?_
    refine wpList_plain rfl (fun Ko hKo => ?_)
    go_simp
    refine hKo _ _ ?_
    clear hKo Ko
    try simp only [Act.put, nm1, nm2, nm3, i64_w]
    refine wpList_plain rfl (fun Ko hKo => ?_)
    go_simp
    refine hKo _ _ ?_
    clear hKo Ko
    try simp only [Act.put, nm1, nm2, nm3, i64_w]
    refine wpList_nil ?_
    (try simp only [Exit.then, Exit.inBlock, ↓reduceIte, Nat.reduceEqDiff])
    refine hK13 _ _ ?_
    go_roundg k9
    case measure => exact Nat.lt_succ_self _
    case rel => exact ⟨wrap64 (x4 + 1), (by first | rfl | simp), HL30, ⟨by have := hk10.out; omega⟩, ⟨(hu6.out.trans hu28.out)⟩, ⟨(Nat.le_trans ((Nat.le_trans (Nat.le_refl _) hz7.out)) hu28.out.size)⟩⟩
   ·
    rw [if_neg c29] at H
    replace c29 := Bool.eq_false_iff.mpr c29
    subst c29
    obtain rfl := Option.some.inj H
    refine wp_cond_true rfl ?_
    refine wp_seq_k (fun K31 hK31 => ?_)
    refine wp_region_lit ?_
    refine wpList_plain rfl (fun Ko hKo => ?_)
    go_simp
    refine hKo _ _ ?_
    clear hKo Ko
    try simp only [Act.put, nm1, nm2, nm3, i64_w]
    refine wpList_nil ?_
    (try simp only [Exit.then, Exit.inBlock, ↓reduceIte, Nat.reduceEqDiff])
    refine hK31 _ _ ?_
    refine wp_ret ?_
    (try simp only [Exit.then, Exit.inBlock, ↓reduceIte, Nat.reduceEqDiff])
    refine hQf _ _ _ ?_
    exact bodyPost_ret (v := .bool false) (by first | rfl | (simp [results, Try.results111, go_sem]; done) | (simp [results, Try.results111, go_sem]; rfl)) rfl ⟨rfl, (hu6.out.trans hu28.out)⟩
  ·
   rw [if_neg c16] at H
   replace c16 := Bool.eq_false_iff.mpr c16
   obtain rfl := Option.some.inj H
   try simp only [c16, Bool.not_true, Bool.not_false]
   refine wp_cond_false rfl ?_
   refine wp_exit ?_
   (try simp only [Exit.then, Exit.inBlock, ↓reduceIte, Nat.reduceEqDiff])
   refine hK2 _ _ ?_
   refine wp_seq_k (fun K32 hK32 => ?_)
   refine wp_region_lit ?_
   refine wpList_plain rfl (fun Ko hKo => ?_)
   go_simp
   refine hKo _ _ ?_
   clear hKo Ko
   try simp only [Act.put, nm1, nm2, nm3, i64_w]
   refine wpList_nil ?_
   (try simp only [Exit.then, Exit.inBlock, ↓reduceIte, Nat.reduceEqDiff])
   refine hK32 _ _ ?_
   refine wp_ret ?_
   (try simp only [Exit.then, Exit.inBlock, ↓reduceIte, Nat.reduceEqDiff])
   refine hQf _ _ _ ?_
   exact bodyPost_ret (v := .bool true) (by first | rfl | (simp [results, Try.results111, go_sem]; done) | (simp [results, Try.results111, go_sem]; rfl)) rfl ⟨rfl, hu6.out⟩

set_option maxHeartbeats 40000000 in
set_option maxRecDepth 100000 in
theorem impl_isPoint.calls (K : Nat) (a0 : Int) (a1_0 : Int) (a1_1 : Int) (r0 : Bool) (w : World)  (h : impl_isPoint.f K a0 a1_0 a1_1 = some (r0)) :
    Calls Try.prog 52 #[.int .i64 a0, .agg #[.int .i64 a1_0, .int .i64 a1_1]] w fun e w' => e = .returned (.bool r0) ∧ Up w w' := by
 have H : (((impl_areNumbers.f K a0 ([a1_0, a1_1])).bind fun t6 => some t6) : Option (Bool)) = some (r0) := h
 clear h
 replace H := Option.bind_eq_some_iff.mp H
 obtain ⟨t6, A7, H⟩ := H
 replace A7 := Aside0.mk A7
 try dsimp only at H
 obtain rfl := Option.some.inj H
 go_enter Try.func52, Try.ntmps52
 refine wp_hide (fun Qf hQf => ?_)
 refine wp_seq_k (fun K1 hK1 => ?_)
 refine wp_region_lit ?_
 refine step_new (cs := [.int .i64 a1_0, .int .i64 a1_1]) (T := 26) (f := fun b => .pointer (some ⟨b, 0, none⟩)) rfl (by first | (go_simp; done) | (go_simp; rfl)) ?_
 intro b2 w3 hu lb hb2
 simp only [Act.put, nm1, nm2, nm3, i64_w]
 have lbb2 := Aside0.mk lb
 have ltb2 := Aside0.mk hb2.lt
 clear lb
 have hu4 := Aside0.mk hu
 clear hu
 refine wpList_plain rfl (fun Ko hKo => ?_)
 go_simp
 refine hKo _ _ ?_
 clear hKo Ko
 try simp only [Act.put, nm1, nm2, nm3, i64_w]
 refine wpList_nil ?_
 (try simp only [Exit.then, Exit.inBlock, ↓reduceIte, Nat.reduceEqDiff])
 refine hK1 _ _ ?_
 refine wp_seq_k (fun K5 hK5 => ?_)
 refine wp_region_lit ?_
 refine wpList_plain rfl (fun Ko hKo => ?_)
 go_simp
 refine hKo _ _ ?_
 clear hKo Ko
 try simp only [Act.put, nm1, nm2, nm3, i64_w]
 refine wpList_plain rfl (fun Ko hKo => ?_)
 go_simp
 refine hKo _ _ ?_
 clear hKo Ko
 try simp only [Act.put, nm1, nm2, nm3, i64_w]
 refine step_call (wanted_none rfl) (by first | (go_simp; done) | (go_simp; rfl)) (impl_areNumbers.calls K a0 (some ⟨b2, 0, none⟩) 2 ([a1_0, a1_1]) t6 w3 (Rd.of_blk (E := eI) (xs := [a1_0, a1_1]) (o := 0) hb2 (by simp) (fun j u hu => by rcases j with _ | _ | j <;> simp_all [Enc.flat, eI])) A7.out) ?_
 rintro e w8 ⟨rfl, hu⟩
 have hu9 := Aside0.mk hu
 clear hu
 refine ⟨_, rfl, ?_⟩
 simp only [Act.put, nm1, nm2, nm3, i64_w]
 refine wpList_plain rfl (fun Ko hKo => ?_)
 go_simp
 refine hKo _ _ ?_
 clear hKo Ko
 try simp only [Act.put, nm1, nm2, nm3, i64_w]
 refine wpList_nil ?_
 (try simp only [Exit.then, Exit.inBlock, ↓reduceIte, Nat.reduceEqDiff])
 refine hK5 _ _ ?_
 refine wp_ret ?_
 (try simp only [Exit.then, Exit.inBlock, ↓reduceIte, Nat.reduceEqDiff])
 refine hQf _ _ _ ?_
 exact bodyPost_ret (v := .bool t6) (by first | rfl | (simp [results, Try.results52, go_sem]; done) | (simp [results, Try.results52, go_sem]; rfl)) rfl ⟨rfl, (hu4.out.trans hu9.out)⟩

set_option maxHeartbeats 40000000 in
set_option maxRecDepth 100000 in
theorem impl_TurnsAbout_1.calls (K : Nat) (bf0 : Nat) (f0_0 : Int) (bf1 : Nat) (f1_0 : Int) (bf2 : Nat) (f2_0 : Int) (f2_1 : Int) (r0 : Bool) (w : World) (hf0 : Blk w bf0 [.int .i64 f0_0] 2) (hf1 : Blk w bf1 [.int .i64 f1_0] 2) (hf2 : Blk w bf2 [.int .i64 f2_0, .int .i64 f2_1] 26) (h : impl_TurnsAbout_1.f K f0_0 f1_0 f2_0 f2_1 = some (r0)) :
    Calls Try.prog 99 #[.pointer (some ⟨bf0, 0, none⟩), .pointer (some ⟨bf1, 0, none⟩), .pointer (some ⟨bf2, 0, none⟩)] w fun e w' => e = .returned (.bool r0) ∧ Up w w' := by
 have H : (((impl_isColour.f K f0_0).bind fun t3 => (if t3 = true then ((impl_isPoint.f K f1_0 f2_0 f2_1).bind fun t8 => some t8) else some false)) : Option (Bool)) = some (r0) := h
 clear h
 replace H := Option.bind_eq_some_iff.mp H
 obtain ⟨t3, A4, H⟩ := H
 replace A4 := Aside0.mk A4
 try dsimp only at H
 have ltbf0 := Aside0.mk hf0.lt
 have ltbf1 := Aside0.mk hf1.lt
 have ltbf2 := Aside0.mk hf2.lt
 go_enter Try.func99, Try.ntmps99
 refine wp_hide (fun Qf hQf => ?_)
 refine wp_seq_k (fun K1 hK1 => ?_)
 refine wp_region_lit ?_
 refine wpList_plain rfl (fun Ko hKo => ?_)
 go_simp
 refine hKo _ _ ?_
 clear hKo Ko
 try simp only [Act.put, nm1, nm2, nm3, i64_w]
 refine wpList_nil ?_
 (try simp only [Exit.then, Exit.inBlock, ↓reduceIte, Nat.reduceEqDiff])
 refine hK1 _ _ ?_
 refine wp_seq_k (fun K2 hK2 => ?_)
 refine wp_region_lit ?_
 have cl0 := hf0.cell (o := 0) rfl
 refine wpList_plain rfl (fun Ko hKo => ?_)
 go_simp
 refine hKo _ _ ?_
 clear hKo Ko
 clear cl0
 try simp only [Act.put, nm1, nm2, nm3, i64_w]
 refine step_call (wanted_none rfl) (by first | (go_simp; done) | (go_simp; rfl)) (impl_isColour.calls K f0_0 t3 w  A4.out) ?_
 rintro e w5 ⟨rfl, hu⟩
 have hu6 := Aside0.mk hu
 clear hu
 refine ⟨_, rfl, ?_⟩
 simp only [Act.put, nm1, nm2, nm3, i64_w]
 refine wpList_plain rfl (fun Ko hKo => ?_)
 go_simp
 refine hKo _ _ ?_
 clear hKo Ko
 try simp only [Act.put, nm1, nm2, nm3, i64_w]
 by_cases c7 : (t3) = true
 ·
  rw [if_pos c7] at H
  subst c7
  replace H := Option.bind_eq_some_iff.mp H
  obtain ⟨t8, A9, H⟩ := H
  replace A9 := Aside0.mk A9
  try dsimp only at H
  obtain rfl := Option.some.inj H
  have cl0 := (hf1.up hu6.out).cell (o := 0) rfl
  refine wpList_step (fun Ko hKo => ?_)
  go_simp
  refine hKo _ _ ?_
  clear hKo Ko
  clear cl0
  try simp only [Act.put, nm1, nm2, nm3, i64_w]
  have cl0 := (hf2.up hu6.out).cell (o := 0) rfl
  have cl1 := (hf2.up hu6.out).cell (o := 1) rfl
  refine wpList_step (fun Ko hKo => ?_)
  go_simp
  refine hKo _ _ ?_
  clear hKo Ko
  clear cl0 cl1
  try simp only [Act.put, nm1, nm2, nm3, i64_w]
  refine step_call rfl (by first | (go_simp; done) | (go_simp; rfl)) (impl_isPoint.calls K f1_0 f2_0 f2_1 t8 w5  A9.out) ?_
  rintro e w10 ⟨rfl, hu⟩
  have hu11 := Aside0.mk hu
  clear hu
  refine ⟨_, rfl, ?_⟩
  simp only [Act.put, nm1, nm2, nm3, i64_w]
  refine wpList_plain rfl (fun Ko hKo => ?_)
  go_simp
  refine hKo _ _ ?_
  clear hKo Ko
  try simp only [Act.put, nm1, nm2, nm3, i64_w]
  refine wpList_plain rfl (fun Ko hKo => ?_)
  go_simp
  refine hKo _ _ ?_
  clear hKo Ko
  try simp only [Act.put, nm1, nm2, nm3, i64_w]
  refine wpList_nil ?_
  (try simp only [Exit.then, Exit.inBlock, ↓reduceIte, Nat.reduceEqDiff])
  refine hK2 _ _ ?_
  refine wp_ret ?_
  (try simp only [Exit.then, Exit.inBlock, ↓reduceIte, Nat.reduceEqDiff])
  refine hQf _ _ _ ?_
  exact bodyPost_ret (v := .bool t8) (by first | rfl | (simp [results, Try.results99, go_sem]; done) | (simp [results, Try.results99, go_sem]; rfl)) rfl ⟨rfl, (hu6.out.trans hu11.out)⟩
 ·
  rw [if_neg c7] at H
  replace c7 := Bool.eq_false_iff.mpr c7
  subst c7
  obtain rfl := Option.some.inj H
  refine step_no rfl ?_
  simp only [Act.put, nm1, nm2, nm3, i64_w]
  refine step_no rfl ?_
  simp only [Act.put, nm1, nm2, nm3, i64_w]
  refine step_no rfl ?_
  simp only [Act.put, nm1, nm2, nm3, i64_w]
  refine wpList_plain rfl (fun Ko hKo => ?_)
  go_simp
  refine hKo _ _ ?_
  clear hKo Ko
  try simp only [Act.put, nm1, nm2, nm3, i64_w]
  refine wpList_plain rfl (fun Ko hKo => ?_)
  go_simp
  refine hKo _ _ ?_
  clear hKo Ko
  try simp only [Act.put, nm1, nm2, nm3, i64_w]
  refine wpList_nil ?_
  (try simp only [Exit.then, Exit.inBlock, ↓reduceIte, Nat.reduceEqDiff])
  refine hK2 _ _ ?_
  refine wp_ret ?_
  (try simp only [Exit.then, Exit.inBlock, ↓reduceIte, Nat.reduceEqDiff])
  refine hQf _ _ _ ?_
  exact bodyPost_ret (v := .bool false) (by first | rfl | (simp [results, Try.results99, go_sem]; done) | (simp [results, Try.results99, go_sem]; rfl)) rfl ⟨rfl, hu6.out⟩

set_option maxHeartbeats 40000000 in
set_option maxRecDepth 100000 in
theorem impl_asked__impl_TurnsAbout_1.calls (K : Nat) (a0 : Int) (bc1_0 : Nat) (c1_0_0 : Int) (bc1_1 : Nat) (c1_1_0 : Int) (bc1_2 : Nat) (c1_2_0 : Int) (c1_2_1 : Int) (r0 : Int) (w : World) (hc1_0 : Blk w bc1_0 [.int .i64 c1_0_0] 2) (hc1_1 : Blk w bc1_1 [.int .i64 c1_1_0] 2) (hc1_2 : Blk w bc1_2 [.int .i64 c1_2_0, .int .i64 c1_2_1] 26) (h : impl_asked__impl_TurnsAbout_1.f K a0 c1_0_0 c1_1_0 c1_2_0 c1_2_1 = some (r0)) :
    Calls Try.prog 49 #[.int .i64 a0, .func (.func 99) #[] #[.pointer (some ⟨bc1_0, 0, none⟩), .pointer (some ⟨bc1_1, 0, none⟩), .pointer (some ⟨bc1_2, 0, none⟩)]] w fun e w' => e = .returned (.int .i64 r0) ∧ Up w w' := by
 have H : (((impl_IsField.f K a0).bind fun t4 => (if t4 = true then ((impl_TurnsAbout_1.f K c1_0_0 c1_1_0 c1_2_0 c1_2_1).bind fun t11 => (if t11 = true then some 0 else some 2)) else some 1)) : Option (Int)) = some (r0) := h
 clear h
 replace H := Option.bind_eq_some_iff.mp H
 obtain ⟨t4, A5, H⟩ := H
 replace A5 := Aside0.mk A5
 try dsimp only at H
 have ltbc1_0 := Aside0.mk hc1_0.lt
 have ltbc1_1 := Aside0.mk hc1_1.lt
 have ltbc1_2 := Aside0.mk hc1_2.lt
 go_enter Try.func49, Try.ntmps49
 refine wp_hide (fun Qf hQf => ?_)
 refine wp_seq_k (fun K1 hK1 => ?_)
 refine wp_region_lit ?_
 refine wpList_plain rfl (fun Ko hKo => ?_)
 go_simp
 refine hKo _ _ ?_
 clear hKo Ko
 try simp only [Act.put, nm1, nm2, nm3, i64_w]
 refine wpList_nil ?_
 (try simp only [Exit.then, Exit.inBlock, ↓reduceIte, Nat.reduceEqDiff])
 refine hK1 _ _ ?_
 refine wp_seq_k (fun K2 hK2 => ?_)
 refine wp_seq_k (fun K3 hK3 => ?_)
 refine wp_region_lit ?_
 refine wpList_plain rfl (fun Ko hKo => ?_)
 go_simp
 refine hKo _ _ ?_
 clear hKo Ko
 try simp only [Act.put, nm1, nm2, nm3, i64_w]
 refine step_call (wanted_none rfl) (by first | (go_simp; done) | (go_simp; rfl)) (impl_IsField.calls K a0 t4 w  A5.out) ?_
 rintro e w6 ⟨rfl, hu⟩
 have hu7 := Aside0.mk hu
 clear hu
 refine ⟨_, rfl, ?_⟩
 simp only [Act.put, nm1, nm2, nm3, i64_w]
 refine wpList_plain rfl (fun Ko hKo => ?_)
 go_simp
 refine hKo _ _ ?_
 clear hKo Ko
 try simp only [Act.put, nm1, nm2, nm3, i64_w]
 refine wpList_nil ?_
 (try simp only [Exit.then, Exit.inBlock, ↓reduceIte, Nat.reduceEqDiff])
 refine hK3 _ _ ?_
 by_cases c8 : (t4) = true
 ·
  rw [if_pos c8] at H
  subst c8
  replace H := Option.bind_eq_some_iff.mp H
  obtain ⟨t11, A12, H⟩ := H
  replace A12 := Aside0.mk A12
  try dsimp only at H
  refine wp_cond_false rfl ?_
  refine wp_skip ?_
  (try simp only [Exit.then, Exit.inBlock, ↓reduceIte, Nat.reduceEqDiff])
  refine hK2 _ _ ?_
  refine wp_seq_k (fun K9 hK9 => ?_)
  refine wp_seq_k (fun K10 hK10 => ?_)
  refine wp_region_lit ?_
  refine wpList_plain rfl (fun Ko hKo => ?_)
  go_simp
  refine hKo _ _ ?_
  clear hKo Ko
  try simp only [Act.put, nm1, nm2, nm3, i64_w]
  refine step_call (wanted_none rfl) (by first | (go_simp; done) | (go_simp; rfl)) (impl_TurnsAbout_1.calls K bc1_0 c1_0_0 bc1_1 c1_1_0 bc1_2 c1_2_0 c1_2_1 t11 w6 (hc1_0.up hu7.out) (hc1_1.up hu7.out) (hc1_2.up hu7.out) A12.out) ?_
  rintro e w13 ⟨rfl, hu⟩
  have hu14 := Aside0.mk hu
  clear hu
  refine ⟨_, rfl, ?_⟩
  simp only [Act.put, nm1, nm2, nm3, i64_w]
  refine wpList_plain rfl (fun Ko hKo => ?_)
  go_simp
  refine hKo _ _ ?_
  clear hKo Ko
  try simp only [Act.put, nm1, nm2, nm3, i64_w]
  refine wpList_nil ?_
  (try simp only [Exit.then, Exit.inBlock, ↓reduceIte, Nat.reduceEqDiff])
  refine hK10 _ _ ?_
  by_cases c15 : (t11) = true
  ·
   rw [if_pos c15] at H
   subst c15
   obtain rfl := Option.some.inj H
   refine wp_cond_false rfl ?_
   refine wp_skip ?_
   (try simp only [Exit.then, Exit.inBlock, ↓reduceIte, Nat.reduceEqDiff])
   refine hK9 _ _ ?_
   refine wp_seq_k (fun K16 hK16 => ?_)
   refine wp_region_lit ?_
   refine wpList_plain rfl (fun Ko hKo => ?_)
   go_simp
   refine hKo _ _ ?_
   clear hKo Ko
   try simp only [Act.put, nm1, nm2, nm3, i64_w]
   refine wpList_nil ?_
   (try simp only [Exit.then, Exit.inBlock, ↓reduceIte, Nat.reduceEqDiff])
   refine hK16 _ _ ?_
   refine wp_ret ?_
   (try simp only [Exit.then, Exit.inBlock, ↓reduceIte, Nat.reduceEqDiff])
   refine hQf _ _ _ ?_
   exact bodyPost_ret (v := .int .i64 0) (by first | rfl | (simp [results, Try.results49, go_sem]; done) | (simp [results, Try.results49, go_sem]; rfl)) rfl ⟨rfl, (hu7.out.trans hu14.out)⟩
  ·
   rw [if_neg c15] at H
   replace c15 := Bool.eq_false_iff.mpr c15
   subst c15
   obtain rfl := Option.some.inj H
   refine wp_cond_true rfl ?_
   refine wp_seq_k (fun K17 hK17 => ?_)
   refine wp_region_lit ?_
   refine wpList_plain rfl (fun Ko hKo => ?_)
   go_simp
   refine hKo _ _ ?_
   clear hKo Ko
   try simp only [Act.put, nm1, nm2, nm3, i64_w]
   refine wpList_nil ?_
   (try simp only [Exit.then, Exit.inBlock, ↓reduceIte, Nat.reduceEqDiff])
   refine hK17 _ _ ?_
   refine wp_ret ?_
   (try simp only [Exit.then, Exit.inBlock, ↓reduceIte, Nat.reduceEqDiff])
   refine hQf _ _ _ ?_
   exact bodyPost_ret (v := .int .i64 2) (by first | rfl | (simp [results, Try.results49, go_sem]; done) | (simp [results, Try.results49, go_sem]; rfl)) rfl ⟨rfl, (hu7.out.trans hu14.out)⟩
 ·
  rw [if_neg c8] at H
  replace c8 := Bool.eq_false_iff.mpr c8
  subst c8
  obtain rfl := Option.some.inj H
  refine wp_cond_true rfl ?_
  refine wp_seq_k (fun K18 hK18 => ?_)
  refine wp_region_lit ?_
  refine wpList_plain rfl (fun Ko hKo => ?_)
  go_simp
  refine hKo _ _ ?_
  clear hKo Ko
  try simp only [Act.put, nm1, nm2, nm3, i64_w]
  refine wpList_nil ?_
  (try simp only [Exit.then, Exit.inBlock, ↓reduceIte, Nat.reduceEqDiff])
  refine hK18 _ _ ?_
  refine wp_ret ?_
  (try simp only [Exit.then, Exit.inBlock, ↓reduceIte, Nat.reduceEqDiff])
  refine hQf _ _ _ ?_
  exact bodyPost_ret (v := .int .i64 1) (by first | rfl | (simp [results, Try.results49, go_sem]; done) | (simp [results, Try.results49, go_sem]; rfl)) rfl ⟨rfl, hu7.out⟩

set_option maxHeartbeats 40000000 in
set_option maxRecDepth 100000 in
theorem impl_rest.calls (K : Nat) (a0 : Int) (a1 : Int) (r0 : Int) (w : World)  (h : impl_rest.f K a0 a1 = some (r0)) :
    Calls Try.prog 70 #[.int .i64 a0, .int .i64 a1] w fun e w' => e = .returned (.int .i64 r0) ∧ Up w w' := by
 have H : ((if (a0 == 0) = true then none else some (Int.tmod (wrap64 ((Int.tmod a1 a0) + a0)) a0)) : Option (Int)) = some (r0) := h
 clear h
 go_enter Try.func70, Try.ntmps70
 refine wp_hide (fun Qf hQf => ?_)
 refine wp_seq_k (fun K1 hK1 => ?_)
 refine wp_region_lit ?_
 refine wpList_plain rfl (fun Ko hKo => ?_)
 go_simp
 refine hKo _ _ ?_
 clear hKo Ko
 try simp only [Act.put, nm1, nm2, nm3, i64_w]
 refine wpList_nil ?_
 (try simp only [Exit.then, Exit.inBlock, ↓reduceIte, Nat.reduceEqDiff])
 refine hK1 _ _ ?_
 refine wp_seq_k (fun K2 hK2 => ?_)
 refine wp_region_lit ?_
 refine wpList_plain rfl (fun Ko hKo => ?_)
 go_simp
 refine hKo _ _ ?_
 clear hKo Ko
 try simp only [Act.put, nm1, nm2, nm3, i64_w]
 refine wpList_plain rfl (fun Ko hKo => ?_)
 go_simp
 refine hKo _ _ ?_
 clear hKo Ko
 try simp only [Act.put, nm1, nm2, nm3, i64_w]
 by_cases c3 : (a0 == 0) = true
 ·
  rw [if_pos c3] at H
  have c3n : (a0 != 0) = false := by rw [bne, c3]; rfl
  exact absurd H (by simp)
 ·
  rw [if_neg c3] at H
  replace c3 := Bool.eq_false_iff.mpr c3
  have c3n : (a0 != 0) = true := by rw [bne, c3]; rfl
  have c3p : ¬ a0 = 0 := fun e => by simp [e] at c3
  obtain rfl := Option.some.inj H
  try simp only [c3, c3n, Bool.not_true, Bool.not_false]
  refine wpList_plain rfl (fun Ko hKo => ?_)
  go_simp
  refine hKo _ _ ?_
  clear hKo Ko
  try simp only [Act.put, nm1, nm2, nm3, i64_w]
  refine wpList_plain rfl (fun Ko hKo => ?_)
  go_simp
  refine hKo _ _ ?_
  clear hKo Ko
  try simp only [Act.put, nm1, nm2, nm3, i64_w]
  refine wpList_plain rfl (fun Ko hKo => ?_)
  go_simp
  refine hKo _ _ ?_
  clear hKo Ko
  try simp only [Act.put, nm1, nm2, nm3, i64_w]
  refine wpList_plain rfl (fun Ko hKo => ?_)
  go_simp
  refine hKo _ _ ?_
  clear hKo Ko
  try simp only [Act.put, nm1, nm2, nm3, i64_w]
  refine wpList_plain rfl (fun Ko hKo => ?_)
  go_simp
  refine hKo _ _ ?_
  clear hKo Ko
  try simp only [Act.put, nm1, nm2, nm3, i64_w]
  refine wpList_plain rfl (fun Ko hKo => ?_)
  go_simp
  refine hKo _ _ ?_
  clear hKo Ko
  try simp only [Act.put, nm1, nm2, nm3, i64_w]
  refine wpList_nil ?_
  (try simp only [Exit.then, Exit.inBlock, ↓reduceIte, Nat.reduceEqDiff])
  refine hK2 _ _ ?_
  refine wp_ret ?_
  (try simp only [Exit.then, Exit.inBlock, ↓reduceIte, Nat.reduceEqDiff])
  refine hQf _ _ _ ?_
  exact bodyPost_ret (v := .int .i64 (Int.tmod (wrap64 ((Int.tmod a1 a0) + a0)) a0)) (by first | rfl | (simp [results, Try.results70, go_sem]; done) | (simp [results, Try.results70, go_sem]; rfl)) rfl ⟨rfl, (Up.refl _)⟩

set_option maxHeartbeats 40000000 in
set_option maxRecDepth 100000 in
theorem impl_product.calls (K : Nat) (a0 : Int) (a1 : Int) (a2_0 : Int) (a2_1 : Int) (a3_0 : Int) (a3_1 : Int) (r0 : Int) (w : World)  (h : impl_product.f K a0 a1 a2_0 a2_1 a3_0 a3_1 = some (r0)) :
    Calls Try.prog 114 #[.int .i64 a0, .int .i64 a1, .agg #[.int .i64 a2_0, .int .i64 a2_1], .agg #[.int .i64 a3_0, .int .i64 a3_1]] w fun e w' => e = .returned (.int .i64 r0) ∧ Up w w' := by
 have H : ((if (a1 == 0) = true then ((impl_rest.f K a0 (wrap64 ((wrap64 (a2_0 * a3_0)) + (wrap64 (a2_1 * a3_1))))).bind fun t13 => some t13) else (if (a1 == 1) = true then ((impl_rest.f K a0 (wrap64 ((wrap64 (a2_0 * a3_0)) - (wrap64 (a2_1 * a3_1))))).bind fun t20 => some t20) else ((impl_rest.f K a0 (wrap64 ((wrap64 (a2_0 * a3_1)) + (wrap64 (a2_1 * a3_0))))).bind fun t25 => some t25))) : Option (Int)) = some (r0) := h
 clear h
 go_enter Try.func114, Try.ntmps114
 refine wp_hide (fun Qf hQf => ?_)
 refine wp_seq_k (fun K1 hK1 => ?_)
 refine wp_region_lit ?_
 refine step_new (cs := [.int .i64 a2_0, .int .i64 a2_1]) (T := 26) (f := fun b => .pointer (some ⟨b, 0, none⟩)) rfl (by first | (go_simp; done) | (go_simp; rfl)) ?_
 intro b2 w3 hu lb hb2
 simp only [Act.put, nm1, nm2, nm3, i64_w]
 have lbb2 := Aside0.mk lb
 have ltb2 := Aside0.mk hb2.lt
 clear lb
 have hu4 := Aside0.mk hu
 clear hu
 refine step_new (cs := [.int .i64 a3_0, .int .i64 a3_1]) (T := 26) (f := fun b => .pointer (some ⟨b, 0, none⟩)) rfl (by first | (go_simp; done) | (go_simp; rfl)) ?_
 intro b5 w6 hu lb hb5
 simp only [Act.put, nm1, nm2, nm3, i64_w]
 have lbb5 := Aside0.mk lb
 have ltb5 := Aside0.mk hb5.lt
 clear lb
 have hu7 := Aside0.mk hu
 clear hu
 refine wpList_plain rfl (fun Ko hKo => ?_)
 go_simp
 refine hKo _ _ ?_
 clear hKo Ko
 try simp only [Act.put, nm1, nm2, nm3, i64_w]
 refine wpList_nil ?_
 (try simp only [Exit.then, Exit.inBlock, ↓reduceIte, Nat.reduceEqDiff])
 refine hK1 _ _ ?_
 refine wp_seq_k (fun K8 hK8 => ?_)
 refine wp_seq_k (fun K9 hK9 => ?_)
 refine wp_region_lit ?_
 refine wpList_plain rfl (fun Ko hKo => ?_)
 go_simp
 refine hKo _ _ ?_
 clear hKo Ko
 try simp only [Act.put, nm1, nm2, nm3, i64_w]
 refine wpList_nil ?_
 (try simp only [Exit.then, Exit.inBlock, ↓reduceIte, Nat.reduceEqDiff])
 refine hK9 _ _ ?_
 refine wp_block ?_
 refine wp_seq_k (fun K10 hK10 => ?_)
 refine wp_region_lit ?_
 refine wpList_plain rfl (fun Ko hKo => ?_)
 go_simp
 refine hKo _ _ ?_
 clear hKo Ko
 try simp only [Act.put, nm1, nm2, nm3, i64_w]
 refine wpList_plain rfl (fun Ko hKo => ?_)
 go_simp
 refine hKo _ _ ?_
 clear hKo Ko
 try simp only [Act.put, nm1, nm2, nm3, i64_w]
 refine wpList_nil ?_
 (try simp only [Exit.then, Exit.inBlock, ↓reduceIte, Nat.reduceEqDiff])
 refine hK10 _ _ ?_
 by_cases c11 : (a1 == 0) = true
 ·
  rw [if_pos c11] at H
  have c11n : (a1 != 0) = false := by rw [bne, c11]; rfl
  replace H := Option.bind_eq_some_iff.mp H
  obtain ⟨t13, A14, H⟩ := H
  replace A14 := Aside0.mk A14
  try dsimp only at H
  obtain rfl := Option.some.inj H
  try simp only [c11, c11n, Bool.not_true, Bool.not_false]
  refine wp_cond_true rfl ?_
  refine wp_seq_k (fun K12 hK12 => ?_)
  refine wp_region_lit ?_
  refine wpList_plain rfl (fun Ko hKo => ?_)
  go_simp
  refine hKo _ _ ?_
  clear hKo Ko
  try simp only [Act.put, nm1, nm2, nm3, i64_w]
  refine wpList_plain rfl (fun Ko hKo => ?_)
  go_simp
  refine hKo _ _ ?_
  clear hKo Ko
  try simp only [Act.put, nm1, nm2, nm3, i64_w]
  have cl0 := (hb2.up hu7.out).cell (o := 0) rfl
  refine wpList_plain rfl (fun Ko hKo => ?_)
  go_simp
  refine hKo _ _ ?_
  clear hKo Ko
  clear cl0
  try simp only [Act.put, nm1, nm2, nm3, i64_w]
  refine wpList_plain rfl (fun Ko hKo => ?_)
  go_simp
  refine hKo _ _ ?_
  clear hKo Ko
  try simp only [Act.put, nm1, nm2, nm3, i64_w]
  have cl0 := hb5.cell (o := 0) rfl
  refine wpList_plain rfl (fun Ko hKo => ?_)
  go_simp
  refine hKo _ _ ?_
  clear hKo Ko
  clear cl0
  try simp only [Act.put, nm1, nm2, nm3, i64_w]
  refine wpList_plain rfl (fun Ko hKo => ?_)
  go_simp
  refine hKo _ _ ?_
  clear hKo Ko
  try simp only [Act.put, nm1, nm2, nm3, i64_w]
  refine wpList_plain rfl (fun Ko hKo => ?_)
  go_simp
  refine hKo _ _ ?_
  clear hKo Ko
  try simp only [Act.put, nm1, nm2, nm3, i64_w]
  have cl0 := (hb2.up hu7.out).cell (o := 1) rfl
  refine wpList_plain rfl (fun Ko hKo => ?_)
  go_simp
  refine hKo _ _ ?_
  clear hKo Ko
  clear cl0
  try simp only [Act.put, nm1, nm2, nm3, i64_w]
  refine wpList_plain rfl (fun Ko hKo => ?_)
  go_simp
  refine hKo _ _ ?_
  clear hKo Ko
  try simp only [Act.put, nm1, nm2, nm3, i64_w]
  have cl0 := hb5.cell (o := 1) rfl
  refine wpList_plain rfl (fun Ko hKo => ?_)
  go_simp
  refine hKo _ _ ?_
  clear hKo Ko
  clear cl0
  try simp only [Act.put, nm1, nm2, nm3, i64_w]
  refine wpList_plain rfl (fun Ko hKo => ?_)
  go_simp
  refine hKo _ _ ?_
  clear hKo Ko
  try simp only [Act.put, nm1, nm2, nm3, i64_w]
  refine wpList_plain rfl (fun Ko hKo => ?_)
  go_simp
  refine hKo _ _ ?_
  clear hKo Ko
  try simp only [Act.put, nm1, nm2, nm3, i64_w]
  refine step_call (wanted_none rfl) (by first | (go_simp; done) | (go_simp; rfl)) (impl_rest.calls K a0 (wrap64 ((wrap64 (a2_0 * a3_0)) + (wrap64 (a2_1 * a3_1)))) t13 w6  A14.out) ?_
  rintro e w15 ⟨rfl, hu⟩
  have hu16 := Aside0.mk hu
  clear hu
  refine ⟨_, rfl, ?_⟩
  simp only [Act.put, nm1, nm2, nm3, i64_w]
  refine wpList_plain rfl (fun Ko hKo => ?_)
  go_simp
  refine hKo _ _ ?_
  clear hKo Ko
  try simp only [Act.put, nm1, nm2, nm3, i64_w]
  refine wpList_nil ?_
  (try simp only [Exit.then, Exit.inBlock, ↓reduceIte, Nat.reduceEqDiff])
  refine hK12 _ _ ?_
  refine wp_ret ?_
  (try simp only [Exit.then, Exit.inBlock, ↓reduceIte, Nat.reduceEqDiff])
  refine hQf _ _ _ ?_
  exact bodyPost_ret (v := .int .i64 t13) (by first | rfl | (simp [results, Try.results114, go_sem]; done) | (simp [results, Try.results114, go_sem]; rfl)) rfl ⟨rfl, ((hu4.out.trans hu7.out).trans hu16.out)⟩
 ·
  rw [if_neg c11] at H
  replace c11 := Bool.eq_false_iff.mpr c11
  have c11n : (a1 != 0) = true := by rw [bne, c11]; rfl
  have c11p : ¬ a1 = 0 := fun e => by simp [e] at c11
  try simp only [c11, c11n, Bool.not_true, Bool.not_false]
  refine wp_cond_false rfl ?_
  refine wp_seq_k (fun K17 hK17 => ?_)
  refine wp_region_lit ?_
  refine wpList_plain rfl (fun Ko hKo => ?_)
  go_simp
  refine hKo _ _ ?_
  clear hKo Ko
  try simp only [Act.put, nm1, nm2, nm3, i64_w]
  refine wpList_plain rfl (fun Ko hKo => ?_)
  go_simp
  refine hKo _ _ ?_
  clear hKo Ko
  try simp only [Act.put, nm1, nm2, nm3, i64_w]
  refine wpList_nil ?_
  (try simp only [Exit.then, Exit.inBlock, ↓reduceIte, Nat.reduceEqDiff])
  refine hK17 _ _ ?_
  by_cases c18 : (a1 == 1) = true
  ·
   rw [if_pos c18] at H
   have c18n : (a1 != 1) = false := by rw [bne, c18]; rfl
   replace H := Option.bind_eq_some_iff.mp H
   obtain ⟨t20, A21, H⟩ := H
   replace A21 := Aside0.mk A21
   try dsimp only at H
   obtain rfl := Option.some.inj H
   try simp only [c18, c18n, Bool.not_true, Bool.not_false]
   refine wp_cond_true rfl ?_
   refine wp_seq_k (fun K19 hK19 => ?_)
   refine wp_region_lit ?_
   refine wpList_plain rfl (fun Ko hKo => ?_)
   go_simp
   refine hKo _ _ ?_
   clear hKo Ko
   try simp only [Act.put, nm1, nm2, nm3, i64_w]
   refine wpList_plain rfl (fun Ko hKo => ?_)
   go_simp
   refine hKo _ _ ?_
   clear hKo Ko
   try simp only [Act.put, nm1, nm2, nm3, i64_w]
   have cl0 := (hb2.up hu7.out).cell (o := 0) rfl
   refine wpList_plain rfl (fun Ko hKo => ?_)
   go_simp
   refine hKo _ _ ?_
   clear hKo Ko
   clear cl0
   try simp only [Act.put, nm1, nm2, nm3, i64_w]
   refine wpList_plain rfl (fun Ko hKo => ?_)
   go_simp
   refine hKo _ _ ?_
   clear hKo Ko
   try simp only [Act.put, nm1, nm2, nm3, i64_w]
   have cl0 := hb5.cell (o := 0) rfl
   refine wpList_plain rfl (fun Ko hKo => ?_)
   go_simp
   refine hKo _ _ ?_
   clear hKo Ko
   clear cl0
   try simp only [Act.put, nm1, nm2, nm3, i64_w]
   refine wpList_plain rfl (fun Ko hKo => ?_)
   go_simp
   refine hKo _ _ ?_
   clear hKo Ko
   try simp only [Act.put, nm1, nm2, nm3, i64_w]
   refine wpList_plain rfl (fun Ko hKo => ?_)
   go_simp
   refine hKo _ _ ?_
   clear hKo Ko
   try simp only [Act.put, nm1, nm2, nm3, i64_w]
   have cl0 := (hb2.up hu7.out).cell (o := 1) rfl
   refine wpList_plain rfl (fun Ko hKo => ?_)
   go_simp
   refine hKo _ _ ?_
   clear hKo Ko
   clear cl0
   try simp only [Act.put, nm1, nm2, nm3, i64_w]
   refine wpList_plain rfl (fun Ko hKo => ?_)
   go_simp
   refine hKo _ _ ?_
   clear hKo Ko
   try simp only [Act.put, nm1, nm2, nm3, i64_w]
   have cl0 := hb5.cell (o := 1) rfl
   refine wpList_plain rfl (fun Ko hKo => ?_)
   go_simp
   refine hKo _ _ ?_
   clear hKo Ko
   clear cl0
   try simp only [Act.put, nm1, nm2, nm3, i64_w]
   refine wpList_plain rfl (fun Ko hKo => ?_)
   go_simp
   refine hKo _ _ ?_
   clear hKo Ko
   try simp only [Act.put, nm1, nm2, nm3, i64_w]
   refine wpList_plain rfl (fun Ko hKo => ?_)
   go_simp
   refine hKo _ _ ?_
   clear hKo Ko
   try simp only [Act.put, nm1, nm2, nm3, i64_w]
   refine step_call (wanted_none rfl) (by first | (go_simp; done) | (go_simp; rfl)) (impl_rest.calls K a0 (wrap64 ((wrap64 (a2_0 * a3_0)) - (wrap64 (a2_1 * a3_1)))) t20 w6  A21.out) ?_
   rintro e w22 ⟨rfl, hu⟩
   have hu23 := Aside0.mk hu
   clear hu
   refine ⟨_, rfl, ?_⟩
   simp only [Act.put, nm1, nm2, nm3, i64_w]
   refine wpList_plain rfl (fun Ko hKo => ?_)
   go_simp
   refine hKo _ _ ?_
   clear hKo Ko
   try simp only [Act.put, nm1, nm2, nm3, i64_w]
   refine wpList_nil ?_
   (try simp only [Exit.then, Exit.inBlock, ↓reduceIte, Nat.reduceEqDiff])
   refine hK19 _ _ ?_
   refine wp_ret ?_
   (try simp only [Exit.then, Exit.inBlock, ↓reduceIte, Nat.reduceEqDiff])
   refine hQf _ _ _ ?_
   exact bodyPost_ret (v := .int .i64 t20) (by first | rfl | (simp [results, Try.results114, go_sem]; done) | (simp [results, Try.results114, go_sem]; rfl)) rfl ⟨rfl, ((hu4.out.trans hu7.out).trans hu23.out)⟩
  ·
   rw [if_neg c18] at H
   replace c18 := Bool.eq_false_iff.mpr c18
   have c18n : (a1 != 1) = true := by rw [bne, c18]; rfl
   have c18p : ¬ a1 = 1 := fun e => by simp [e] at c18
   replace H := Option.bind_eq_some_iff.mp H
   obtain ⟨t25, A26, H⟩ := H
   replace A26 := Aside0.mk A26
   try dsimp only at H
   obtain rfl := Option.some.inj H
   try simp only [c18, c18n, Bool.not_true, Bool.not_false]
   refine wp_cond_false rfl ?_
   refine wp_skip ?_
   (try simp only [Exit.then, Exit.inBlock, ↓reduceIte, Nat.reduceEqDiff])
   refine hK8 _ _ ?_
   refine wp_seq_k (fun K24 hK24 => ?_)
   refine wp_region_lit ?_
   refine wpList_plain rfl (fun Ko hKo => ?_)
   go_simp
   refine hKo _ _ ?_
   clear hKo Ko
   try simp only [Act.put, nm1, nm2, nm3, i64_w]
   refine wpList_plain rfl (fun Ko hKo => ?_)
   go_simp
   refine hKo _ _ ?_
   clear hKo Ko
   try simp only [Act.put, nm1, nm2, nm3, i64_w]
   have cl0 := (hb2.up hu7.out).cell (o := 0) rfl
   refine wpList_plain rfl (fun Ko hKo => ?_)
   go_simp
   refine hKo _ _ ?_
   clear hKo Ko
   clear cl0
   try simp only [Act.put, nm1, nm2, nm3, i64_w]
   refine wpList_plain rfl (fun Ko hKo => ?_)
   go_simp
   refine hKo _ _ ?_
   clear hKo Ko
   try simp only [Act.put, nm1, nm2, nm3, i64_w]
   have cl0 := hb5.cell (o := 1) rfl
   refine wpList_plain rfl (fun Ko hKo => ?_)
   go_simp
   refine hKo _ _ ?_
   clear hKo Ko
   clear cl0
   try simp only [Act.put, nm1, nm2, nm3, i64_w]
   refine wpList_plain rfl (fun Ko hKo => ?_)
   go_simp
   refine hKo _ _ ?_
   clear hKo Ko
   try simp only [Act.put, nm1, nm2, nm3, i64_w]
   refine wpList_plain rfl (fun Ko hKo => ?_)
   go_simp
   refine hKo _ _ ?_
   clear hKo Ko
   try simp only [Act.put, nm1, nm2, nm3, i64_w]
   have cl0 := (hb2.up hu7.out).cell (o := 1) rfl
   refine wpList_plain rfl (fun Ko hKo => ?_)
   go_simp
   refine hKo _ _ ?_
   clear hKo Ko
   clear cl0
   try simp only [Act.put, nm1, nm2, nm3, i64_w]
   refine wpList_plain rfl (fun Ko hKo => ?_)
   go_simp
   refine hKo _ _ ?_
   clear hKo Ko
   try simp only [Act.put, nm1, nm2, nm3, i64_w]
   have cl0 := hb5.cell (o := 0) rfl
   refine wpList_plain rfl (fun Ko hKo => ?_)
   go_simp
   refine hKo _ _ ?_
   clear hKo Ko
   clear cl0
   try simp only [Act.put, nm1, nm2, nm3, i64_w]
   refine wpList_plain rfl (fun Ko hKo => ?_)
   go_simp
   refine hKo _ _ ?_
   clear hKo Ko
   try simp only [Act.put, nm1, nm2, nm3, i64_w]
   refine wpList_plain rfl (fun Ko hKo => ?_)
   go_simp
   refine hKo _ _ ?_
   clear hKo Ko
   try simp only [Act.put, nm1, nm2, nm3, i64_w]
   refine step_call (wanted_none rfl) (by first | (go_simp; done) | (go_simp; rfl)) (impl_rest.calls K a0 (wrap64 ((wrap64 (a2_0 * a3_1)) + (wrap64 (a2_1 * a3_0)))) t25 w6  A26.out) ?_
   rintro e w27 ⟨rfl, hu⟩
   have hu28 := Aside0.mk hu
   clear hu
   refine ⟨_, rfl, ?_⟩
   simp only [Act.put, nm1, nm2, nm3, i64_w]
   refine wpList_plain rfl (fun Ko hKo => ?_)
   go_simp
   refine hKo _ _ ?_
   clear hKo Ko
   try simp only [Act.put, nm1, nm2, nm3, i64_w]
   refine wpList_nil ?_
   (try simp only [Exit.then, Exit.inBlock, ↓reduceIte, Nat.reduceEqDiff])
   refine hK24 _ _ ?_
   refine wp_ret ?_
   (try simp only [Exit.then, Exit.inBlock, ↓reduceIte, Nat.reduceEqDiff])
   refine hQf _ _ _ ?_
   exact bodyPost_ret (v := .int .i64 t25) (by first | rfl | (simp [results, Try.results114, go_sem]; done) | (simp [results, Try.results114, go_sem]; rfl)) rfl ⟨rfl, ((hu4.out.trans hu7.out).trans hu28.out)⟩

set_option maxHeartbeats 40000000 in
set_option maxRecDepth 100000 in
theorem impl_allPoints.calls (K : Nat) (a0 : Int) (r0 : List (Int × Int)) (w : World)  (h : impl_allPoints.f K a0 = some (r0)) :
    Calls Try.prog 135 #[.int .i64 a0] w fun e w' => ∃ (Ar0 : Option Addr) (cr0 : Nat), e = .returned (.slice Ar0 r0.length cr0) ∧ Own e2 26 w' w.heap.size (.slice Ar0 r0.length cr0) r0 ∧ Up w w' := by
 have H : ((impl_allPoints.l0 K a0 K 0 ([] : List (Int × Int))) : Option (List (Int × Int))) = some (r0) := h
 clear h
 go_enter Try.func135, Try.ntmps135
 refine wp_hide (fun Qf hQf => ?_)
 refine wp_seq_k (fun K1 hK1 => ?_)
 refine wp_region_lit ?_
 refine wpList_plain rfl (fun Ko hKo => ?_)
 go_simp
 refine hKo _ _ ?_
 clear hKo Ko
 try simp only [Act.put, nm1, nm2, nm3, i64_w]
 refine wpList_nil ?_
 (try simp only [Exit.then, Exit.inBlock, ↓reduceIte, Nat.reduceEqDiff])
 refine hK1 _ _ ?_
 refine wp_seq_k (fun K2 hK2 => ?_)
 refine wp_region_lit ?_
 refine step_new (cs := []) (T := 26) (f := fun b => .slice (some ⟨b, 0, none⟩) 0 0) rfl (by first | (go_simp; done) | (go_simp; rfl)) ?_
 intro b3 w4 hu lb hb3
 simp only [Act.put, nm1, nm2, nm3, i64_w]
 have lbb3 := Aside0.mk lb
 have ltb3 := Aside0.mk hb3.lt
 clear lb
 have hu5 := Aside0.mk hu
 clear hu
 refine wpList_plain rfl (fun Ko hKo => ?_)
 go_simp
 refine hKo _ _ ?_
 clear hKo Ko
 try simp only [Act.put, nm1, nm2, nm3, i64_w]
 refine wpList_nil ?_
 (try simp only [Exit.then, Exit.inBlock, ↓reduceIte, Nat.reduceEqDiff])
 refine hK2 _ _ ?_
 refine wp_seq_k (fun K6 hK6 => ?_)
 refine wp_seq_k (fun K7 hK7 => ?_)
 refine wp_region_lit ?_
 refine wpList_plain rfl (fun Ko hKo => ?_)
 go_simp
 refine hKo _ _ ?_
 clear hKo Ko
 try simp only [Act.put, nm1, nm2, nm3, i64_w]
 refine wpList_nil ?_
 (try simp only [Exit.then, Exit.inBlock, ↓reduceIte, Nat.reduceEqDiff])
 refine hK7 _ _ ?_
 refine wp_block ?_
 have h9 : Own e2 26 w4 w.heap.size (.slice (some ⟨b3, 0, none⟩) ([].length) 0) [] := Own.of_blk hb3 lbb3.out rfl (by simp) (by simp [Enc.flat, e2])
 have HL17 := Aside0.mk H
 clear H
 go_loopg [4, 3] K (fun kq v4 v3 w' => ∃ (x10 : Int) (x11 : List (Int × Int)) (P12 : Option Addr) (q13 : Nat), v4 = .int .i64 x10 ∧ v3 = .slice P12 x11.length q13 ∧ Aside0 (impl_allPoints.l0 K a0 kq x10 x11 = some (r0)) ∧ Aside0 (kq ≤ K) ∧ Aside0 (Up w w') ∧ Aside0 (w4.heap.size ≤ w'.heap.size) ∧ Own e2 26 w' w.heap.size (.slice P12 x11.length q13) x11)
 case atStart => exact ⟨0, ([] : List (Int × Int)), some ⟨b3, 0, none⟩, 0, (by first | rfl | simp), (by first | rfl | simp), HL17, ⟨Nat.le_refl _⟩, ⟨hu5.out⟩, ⟨Nat.le_refl _⟩, h9⟩
 case round =>
  rename_i J22 K23 hJ22 hK23
  obtain ⟨x10, x11, P12, q13, rfl, rfl, HL21, hk20, hu15, hz16, h18⟩ := hrel
  obtain ⟨w14, rfl⟩ : ∃ wo : World, wo = wr := ⟨_, rfl⟩
  obtain ⟨k19, rfl⟩ | rfl : (∃ k, gk = k + 1) ∨ gk = 0 := by rcases gk with _ | k; exact .inr rfl; exact .inl ⟨k, rfl⟩
  case inr => exact absurd HL21.out (by simp [impl_allPoints.l0])
  have H := HL21.out
  clear HL21
  rw [impl_allPoints.l0] at H
  refine wp_seq_k (fun K24 hK24 => ?_)
  refine wp_seq_k (fun K25 hK25 => ?_)
  refine wp_region_lit ?_
  refine wpList_plain rfl (fun Ko hKo => ?_)
  go_simp
  refine hKo _ _ ?_
  clear hKo Ko
  try simp only [Act.put, nm1, nm2, nm3, i64_w]
  refine wpList_plain rfl (fun Ko hKo => ?_)
  go_simp
  refine hKo _ _ ?_
  clear hKo Ko
  try simp only [Act.put, nm1, nm2, nm3, i64_w]
  refine wpList_plain rfl (fun Ko hKo => ?_)
  go_simp
  refine hKo _ _ ?_
  clear hKo Ko
  try simp only [Act.put, nm1, nm2, nm3, i64_w]
  refine wpList_nil ?_
  (try simp only [Exit.then, Exit.inBlock, ↓reduceIte, Nat.reduceEqDiff])
  refine hK25 _ _ ?_
  by_cases c26 : (decide (x10 < a0)) = true
  ·
   rw [if_pos c26] at H
   try simp only [c26, Bool.not_true, Bool.not_false]
   refine wp_cond_true rfl ?_
   refine wp_skip ?_
   (try simp only [Exit.then, Exit.inBlock, ↓reduceIte, Nat.reduceEqDiff])
   refine hK24 _ _ ?_
   refine wp_seq_k (fun K27 hK27 => ?_)
   refine wp_block ?_
   refine wp_seq_k (fun K28 hK28 => ?_)
   refine wp_region_lit ?_
   refine wpList_plain rfl (fun Ko hKo => ?_)
   go_simp
   refine hKo _ _ ?_
   clear hKo Ko
   try simp only [Act.put, nm1, nm2, nm3, i64_w]
   refine wpList_nil ?_
   (try simp only [Exit.then, Exit.inBlock, ↓reduceIte, Nat.reduceEqDiff])
   refine hK28 _ _ ?_
   refine wp_block ?_
   have HL36 := Aside0.mk H
   clear H
   go_loopg [5, 3] k19 (fun kq v5 v3 w' => ∃ (x29 : Int) (x30 : List (Int × Int)) (P31 : Option Addr) (q32 : Nat), v5 = .int .i64 x29 ∧ v3 = .slice P31 x30.length q32 ∧ Aside0 (impl_allPoints.l1 K a0 x10 kq x29 x30 = some (r0)) ∧ Aside0 (kq ≤ k19) ∧ Aside0 (Up w w') ∧ Aside0 (w14.heap.size ≤ w'.heap.size) ∧ Own e2 26 w' w.heap.size (.slice P31 x30.length q32) x30)
   case atStart => exact ⟨0, x11, P12, q13, (by first | rfl | simp), (by first | rfl | simp), HL36, ⟨Nat.le_refl _⟩, ⟨hu15.out⟩, ⟨Nat.le_refl _⟩, h18⟩
   case round =>
    rename_i J41 K42 hJ41 hK42
    obtain ⟨x29, x30, P31, q32, rfl, rfl, HL40, hk39, hu34, hz35, h37⟩ := hrel
    obtain ⟨w33, rfl⟩ : ∃ wo : World, wo = wr := ⟨_, rfl⟩
    obtain ⟨k38, rfl⟩ | rfl : (∃ k, gk = k + 1) ∨ gk = 0 := by rcases gk with _ | k; exact .inr rfl; exact .inl ⟨k, rfl⟩
    case inr => exact absurd HL40.out (by simp [impl_allPoints.l1])
    have H := HL40.out
    clear HL40
    rw [impl_allPoints.l1] at H
    refine wp_seq_k (fun K43 hK43 => ?_)
    refine wp_seq_k (fun K44 hK44 => ?_)
    refine wp_region_lit ?_
    refine wpList_plain rfl (fun Ko hKo => ?_)
    go_simp
    refine hKo _ _ ?_
    clear hKo Ko
    try simp only [Act.put, nm1, nm2, nm3, i64_w]
    refine wpList_plain rfl (fun Ko hKo => ?_)
    go_simp
    refine hKo _ _ ?_
    clear hKo Ko
    try simp only [Act.put, nm1, nm2, nm3, i64_w]
    refine wpList_plain rfl (fun Ko hKo => ?_)
    go_simp
    refine hKo _ _ ?_
    clear hKo Ko
    try simp only [Act.put, nm1, nm2, nm3, i64_w]
    refine wpList_nil ?_
    (try simp only [Exit.then, Exit.inBlock, ↓reduceIte, Nat.reduceEqDiff])
    refine hK44 _ _ ?_
    by_cases c45 : (decide (x29 < a0)) = true
    ·
     rw [if_pos c45] at H
     try simp only [c45, Bool.not_true, Bool.not_false]
     refine wp_cond_true rfl ?_
     refine wp_skip ?_
     (try simp only [Exit.then, Exit.inBlock, ↓reduceIte, Nat.reduceEqDiff])
     refine hK43 _ _ ?_
     refine wp_seq_k (fun K46 hK46 => ?_)
     refine wp_block ?_
     refine wp_region_lit ?_
     refine wpList_plain rfl (fun Ko hKo => ?_)
     go_simp
     refine hKo _ _ ?_
     clear hKo Ko
     try simp only [Act.put, nm1, nm2, nm3, i64_w]
     refine wpList_plain rfl (fun Ko hKo => ?_)
     go_simp
     refine hKo _ _ ?_
     clear hKo Ko
     try simp only [Act.put, nm1, nm2, nm3, i64_w]
     refine wpList_plain rfl (fun Ko hKo => ?_)
     go_simp
     refine hKo _ _ ?_
     clear hKo Ko
     try simp only [Act.put, nm1, nm2, nm3, i64_w]
     refine wpList_plain rfl (fun Ko hKo => ?_)
     go_simp
     refine hKo _ _ ?_
     clear hKo Ko
     try simp only [Act.put, nm1, nm2, nm3, i64_w]
     refine step_new (cs := [.int .i64 x10, .int .i64 x29]) (T := 26) (f := fun b => .slice (some ⟨b, 0, none⟩) 1 1) rfl (by first | (go_simp; done) | (go_simp; rfl)) ?_
     intro b47 w48 hu lb hb47
     simp only [Act.put, nm1, nm2, nm3, i64_w]
     have lbb47 := Aside0.mk lb
     have ltb47 := Aside0.mk hb47.lt
     clear lb
     have hu49 := Aside0.mk hu
     clear hu
     have hm51 := Aside0.mk (Nat.le_trans ((Nat.le_trans ((Nat.le_trans (hu5.out.size) hz16.out)) hz35.out)) hu49.out.size)
     by_cases c50 : (decide (x30.length ≤ 1000000)) = true
     ·
      rw [if_pos c50] at H
      have HL61 := Aside0.mk H
      clear H
      try simp only [c50, Bool.not_true, Bool.not_false]
      have hO0 := Aside0.mk (h37.up hu49.out)
      refine step_append e2 (z := .agg #[.int .i64 0, .int .i64 0]) (bytes := 16) (base := w.heap.size) (xs := x30) (ys := [(x10, x29)]) (wanted_none rfl) _ _ rfl rfl (by kernel_rfl) rfl (by decide) rfl rfl rfl hO0.out (Rd.of_blk (E := e2) (xs := [(x10, x29)]) (o := 0) hb47 (by simp) (fun j u hu => by rcases j with _ | _ | j <;> simp_all [Enc.flat, e2])) (hm51.out) (by have h0_ := (of_decide_eq_true (by assumption) : x30.length ≤ 1000000); (try simp only [List.length_cons, List.length_nil]); omega) ?_
      intro P52 q53 w54 h56 hg hat
      have hg57 := Aside0.mk hg
      have hat58 := Aside0.mk hat
      simp only [Act.put, nm1, nm2, nm3, i64_w]
      have lb59 := Aside0.mk hO0.out.lt
      clear hO0 hg hat
      have h60 := hb47.grow hg57.out (fun k hk => Nat.ne_of_lt (Nat.lt_of_lt_of_le ((fun k hk => Nat.lt_of_lt_of_le (h37.lt k hk).2 (Nat.le_refl _)) k hk) lbb47.out))
      refine wpList_plain rfl (fun Ko hKo => ?_)
      go_simp
      refine hKo _ _ ?_
      clear hKo Ko
      try simp only [Act.put, nm1, nm2, nm3, i64_w]
      refine wpList_nil ?_
      (try simp only [Exit.then, Exit.inBlock, ↓reduceIte, Nat.reduceEqDiff])
      refine hK46 _ _ ?_
      refine wp_region_lit ?_
      refine wpList_plain rfl (fun Ko hKo => ?_)
      go_simp
      refine hKo _ _ ?_
      clear hKo Ko
      try simp only [Act.put, nm1, nm2, nm3, i64_w]
      refine wpList_plain rfl (fun Ko hKo => ?_)
      go_simp
      refine hKo _ _ ?_
      clear hKo Ko
      try simp only [Act.put, nm1, nm2, nm3, i64_w]
      refine wpList_plain rfl (fun Ko hKo => ?_)
      go_simp
      refine hKo _ _ ?_
      clear hKo Ko
      try simp only [Act.put, nm1, nm2, nm3, i64_w]
      refine wpList_nil ?_
      (try simp only [Exit.then, Exit.inBlock, ↓reduceIte, Nat.reduceEqDiff])
      refine hK42 _ _ ?_
      go_roundg k38
      case measure => exact Nat.lt_succ_self _
      case rel => exact ⟨wrap64 (x29 + 1), (x30 ++ [(x10, x29)]), P52, q53, (by first | rfl | simp), (by first | rfl | simp), HL61, ⟨by have := hk20.out; have := hk39.out; omega⟩, ⟨((hu34.out.trans hu49.out).grow hg57.out (fun k hk => Nat.le_trans (Nat.le_refl _) ((fun k hk => (lb59.out k hk).1) k hk)))⟩, ⟨(Nat.le_trans ((Nat.le_trans ((Nat.le_trans (Nat.le_refl _) hz35.out)) hu49.out.size)) hg57.out.size)⟩, h56⟩
     ·
      rw [if_neg c50] at H
      replace c50 := Bool.eq_false_iff.mpr c50
      exact absurd H (by simp)
    ·
     rw [if_neg c45] at H
     replace c45 := Bool.eq_false_iff.mpr c45
     have HL62 := Aside0.mk H
     clear H
     try simp only [c45, Bool.not_true, Bool.not_false]
     refine wp_cond_false rfl ?_
     refine wp_exit ?_
     (try simp only [Exit.then, Exit.inBlock, ↓reduceIte, Nat.reduceEqDiff])
     refine hK27 _ _ ?_
     refine wp_region_lit ?_
     refine wpList_plain rfl (fun Ko hKo => ?_)
     go_simp
     refine hKo _ _ ?_
     clear hKo Ko
     try simp only [Act.put, nm1, nm2, nm3, i64_w]
     refine wpList_plain rfl (fun Ko hKo => ?_)
     go_simp
     refine hKo _ _ ?_
     clear hKo Ko
     try simp only [Act.put, nm1, nm2, nm3, i64_w]
     refine wpList_plain rfl (fun Ko hKo => ?_)
     go_simp
     refine hKo _ _ ?_
     clear hKo Ko
     try simp only [Act.put, nm1, nm2, nm3, i64_w]
     refine wpList_nil ?_
     (try simp only [Exit.then, Exit.inBlock, ↓reduceIte, Nat.reduceEqDiff])
     refine hK23 _ _ ?_
     go_roundg k38
     case measure => have := hk20.out; have := hk39.out; omega
     case rel => exact ⟨wrap64 (x10 + 1), x30, P31, q32, (by first | rfl | simp), (by first | rfl | simp), HL62, ⟨by have := hk20.out; have := hk39.out; omega⟩, ⟨hu34.out⟩, ⟨(Nat.le_trans ((Nat.le_trans (Nat.le_refl _) hz16.out)) hz35.out)⟩, h37⟩
  ·
   rw [if_neg c26] at H
   replace c26 := Bool.eq_false_iff.mpr c26
   obtain rfl := Option.some.inj H
   try simp only [c26, Bool.not_true, Bool.not_false]
   refine wp_cond_false rfl ?_
   refine wp_exit ?_
   (try simp only [Exit.then, Exit.inBlock, ↓reduceIte, Nat.reduceEqDiff])
   refine hK6 _ _ ?_
   refine wp_seq_k (fun K63 hK63 => ?_)
   refine wp_region_lit ?_
   refine wpList_plain rfl (fun Ko hKo => ?_)
   go_simp
   refine hKo _ _ ?_
   clear hKo Ko
   try simp only [Act.put, nm1, nm2, nm3, i64_w]
   refine wpList_plain rfl (fun Ko hKo => ?_)
   go_simp
   refine hKo _ _ ?_
   clear hKo Ko
   try simp only [Act.put, nm1, nm2, nm3, i64_w]
   refine wpList_nil ?_
   (try simp only [Exit.then, Exit.inBlock, ↓reduceIte, Nat.reduceEqDiff])
   refine hK63 _ _ ?_
   refine wp_ret ?_
   (try simp only [Exit.then, Exit.inBlock, ↓reduceIte, Nat.reduceEqDiff])
   refine hQf _ _ _ ?_
   exact bodyPost_ret (v := .slice P12 x11.length q13) (by first | rfl | (simp [results, Try.results135, go_sem]; done) | (simp [results, Try.results135, go_sem]; rfl)) rfl ⟨P12, q13, rfl, (h18.lower (Nat.le_refl _)), hu15.out⟩

set_option maxHeartbeats 40000000 in
set_option maxRecDepth 100000 in
theorem impl_less.calls (K : Nat) (a0 : Int) (a1_0 : Int) (a1_1 : Int) (a2_0 : Int) (a2_1 : Int) (r0 : Int) (r1 : Int) (w : World)  (h : impl_less.f K a0 a1_0 a1_1 a2_0 a2_1 = some (r0, r1)) :
    Calls Try.prog 71 #[.int .i64 a0, .agg #[.int .i64 a1_0, .int .i64 a1_1], .agg #[.int .i64 a2_0, .int .i64 a2_1]] w fun e w' => e = .returned (.agg #[.int .i64 r0, .int .i64 r1]) ∧ Up w w' := by
 have H : (((impl_rest.f K a0 (wrap64 (a1_0 - a2_0))).bind fun t12 => ((impl_rest.f K a0 (wrap64 (a1_1 - a2_1))).bind fun t14 => some (t12, t14))) : Option (Int × Int)) = some (r0, r1) := h
 clear h
 replace H := Option.bind_eq_some_iff.mp H
 obtain ⟨t12, A13, H⟩ := H
 replace A13 := Aside0.mk A13
 try dsimp only at H
 replace H := Option.bind_eq_some_iff.mp H
 obtain ⟨t14, A15, H⟩ := H
 replace A15 := Aside0.mk A15
 try dsimp only at H
 simp only [Option.some.injEq, Prod.mk.injEq] at H
 obtain ⟨rfl, rfl⟩ := H
 go_enter Try.func71, Try.ntmps71
 refine wp_hide (fun Qf hQf => ?_)
 refine wp_seq_k (fun K1 hK1 => ?_)
 refine wp_region_lit ?_
 refine step_new (cs := [.int .i64 a1_0, .int .i64 a1_1]) (T := 26) (f := fun b => .pointer (some ⟨b, 0, none⟩)) rfl (by first | (go_simp; done) | (go_simp; rfl)) ?_
 intro b2 w3 hu lb hb2
 simp only [Act.put, nm1, nm2, nm3, i64_w]
 have lbb2 := Aside0.mk lb
 have ltb2 := Aside0.mk hb2.lt
 clear lb
 have hu4 := Aside0.mk hu
 clear hu
 refine step_new (cs := [.int .i64 a2_0, .int .i64 a2_1]) (T := 26) (f := fun b => .pointer (some ⟨b, 0, none⟩)) rfl (by first | (go_simp; done) | (go_simp; rfl)) ?_
 intro b5 w6 hu lb hb5
 simp only [Act.put, nm1, nm2, nm3, i64_w]
 have lbb5 := Aside0.mk lb
 have ltb5 := Aside0.mk hb5.lt
 clear lb
 have hu7 := Aside0.mk hu
 clear hu
 refine step_new (cs := [.int .i64 0, .int .i64 0]) (T := 26) (f := fun b => .pointer (some ⟨b, 0, none⟩)) rfl (by first | (go_simp; done) | (go_simp; rfl)) ?_
 intro b8 w9 hu lb hb8
 simp only [Act.put, nm1, nm2, nm3, i64_w]
 have lbb8 := Aside0.mk lb
 have ltb8 := Aside0.mk hb8.lt
 clear lb
 have hu10 := Aside0.mk hu
 clear hu
 refine wpList_nil ?_
 (try simp only [Exit.then, Exit.inBlock, ↓reduceIte, Nat.reduceEqDiff])
 refine hK1 _ _ ?_
 refine wp_seq_k (fun K11 hK11 => ?_)
 refine' wp_region_up 15 [Slot.det _, Slot.det _, Slot.det _, Slot.det _, Slot.det _, Slot.det _, Slot.det (.int .i64 t12), Slot.det _, Slot.det _, Slot.det _, Slot.det _, Slot.det _, Slot.det _, Slot.det (.int .i64 t14), Slot.det _] (by kernel_rfl) (by kernel_rfl) ?main
 case main =>
  simp only [List.take_succ_cons, List.take_zero]
  refine wpK_ops rfl (fun w1 hu => ?_) ?_
  · clear hu
    go_simp
    first | done | rfl
  simp only [Act.put, nm1, nm2, nm3, i64_w]
  refine wpK_ops rfl (fun w1 hu => ?_) ?_
  · clear hu
    go_simp
    first | done | rfl
  simp only [Act.put, nm1, nm2, nm3, i64_w]
  refine wpK_ops rfl (fun w1 hu => ?_) ?_
  · have cl0 := ((hb2.up (hu7.out.trans hu10.out)).up ((Up.refl _).drew.trans hu)).cell (o := 0) rfl
    go_simp
    first | done | rfl
  simp only [Act.put, nm1, nm2, nm3, i64_w]
  refine wpK_ops rfl (fun w1 hu => ?_) ?_
  · clear hu
    go_simp
    first | done | rfl
  simp only [Act.put, nm1, nm2, nm3, i64_w]
  refine wpK_ops rfl (fun w1 hu => ?_) ?_
  · have cl0 := ((hb5.up hu10.out).up ((Up.refl _).drew.trans hu)).cell (o := 0) rfl
    go_simp
    first | done | rfl
  simp only [Act.put, nm1, nm2, nm3, i64_w]
  refine wpK_ops rfl (fun w1 hu => ?_) ?_
  · clear hu
    go_simp
    first | done | rfl
  simp only [Act.put, nm1, nm2, nm3, i64_w]
  refine wpK_ops rfl (fun w1 hu => ?_) ?_
  · have hcl := (impl_rest.calls K a0 (wrap64 (a1_0 - a2_0)) t12 w1  A13.out)
    clear hu
    replace hcl := Aside0.mk hcl
    go_simp
    exact hcl.out
  simp only [Act.put, nm1, nm2, nm3, i64_w]
  refine wpK_ops rfl (fun w1 hu => ?_) ?_
  · clear hu
    go_simp
    first | done | rfl
  simp only [Act.put, nm1, nm2, nm3, i64_w]
  refine wpK_ops rfl (fun w1 hu => ?_) ?_
  · clear hu
    go_simp
    first | done | rfl
  simp only [Act.put, nm1, nm2, nm3, i64_w]
  refine wpK_ops rfl (fun w1 hu => ?_) ?_
  · have cl0 := ((hb2.up (hu7.out.trans hu10.out)).up ((Up.refl _).drew.trans hu)).cell (o := 1) rfl
    go_simp
    first | done | rfl
  simp only [Act.put, nm1, nm2, nm3, i64_w]
  refine wpK_ops rfl (fun w1 hu => ?_) ?_
  · clear hu
    go_simp
    first | done | rfl
  simp only [Act.put, nm1, nm2, nm3, i64_w]
  refine wpK_ops rfl (fun w1 hu => ?_) ?_
  · have cl0 := ((hb5.up hu10.out).up ((Up.refl _).drew.trans hu)).cell (o := 1) rfl
    go_simp
    first | done | rfl
  simp only [Act.put, nm1, nm2, nm3, i64_w]
  refine wpK_ops rfl (fun w1 hu => ?_) ?_
  · clear hu
    go_simp
    first | done | rfl
  simp only [Act.put, nm1, nm2, nm3, i64_w]
  refine wpK_ops rfl (fun w1 hu => ?_) ?_
  · have hcl := (impl_rest.calls K a0 (wrap64 (a1_1 - a2_1)) t14 w1  A15.out)
    clear hu
    replace hcl := Aside0.mk hcl
    go_simp
    exact hcl.out
  simp only [Act.put, nm1, nm2, nm3, i64_w]
  refine wpK_ops rfl (fun w1 hu => ?_) ?_
  · clear hu
    go_simp
    first | done | rfl
  simp only [Act.put, nm1, nm2, nm3, i64_w]
  refine wpK_nil ?_
  intro w16 hu hap
  simp only [List.drop_succ_cons, List.drop_zero]
  replace hu := (Up.refl _).drew.trans hu
  clear hap
  have hu17 := Aside0.mk hu
  clear hu
  have hB0 := (hb8.up hu17.out)
  have cl0 := hB0.cell (o := 0) rfl
  have fr0 := hB0.free 0
  have cl1 := hB0.cell (o := 1) rfl
  have fr1 := hB0.free 1
  refine step_store (b := b8) (cs' := [.int .i64 t12, .int .i64 t14]) (T := 26) (W' := ((w16.setCell ⟨b8, 0, none⟩ (.int .i64 t12)).setCell ⟨b8, 1, none⟩ (.int .i64 t14))) rfl rfl (by first | (go_simp; done) | (go_simp; rfl)) (((Sto.refl _ _).setCell 0 _).setCell 1 _) (((hB0).setCell 0 _).setCell 1 _) ?_
  clear hB0 cl0 fr0 cl1 fr1
  intro w18 hs hb20
  have hs19 := Aside0.mk hs
  clear hs
  refine wpList_nil ?_
  (try simp only [Exit.then, Exit.inBlock, ↓reduceIte, Nat.reduceEqDiff])
  refine hK11 _ _ ?_
  refine wp_ret ?_
  (try simp only [Exit.then, Exit.inBlock, ↓reduceIte, Nat.reduceEqDiff])
  refine hQf _ _ _ ?_
  have cr0 := hb20.cell (o := 0) rfl
  have cr1 := hb20.cell (o := 1) rfl
  exact bodyPost_ret (v := .agg #[.int .i64 t12, .int .i64 t14]) (by first | rfl | (simp [results, Try.results71, go_sem, cr0, cr1]; done) | (simp [results, Try.results71, go_sem, cr0, cr1]; rfl)) rfl ⟨rfl, ((((hu4.out.trans hu7.out).trans hu10.out).trans hu17.out).sto (Nat.le_trans ((Nat.le_trans (hu4.out.size) hu7.out.size)) lbb8.out) hs19.out)⟩

end Go.Proofs.Ytbibgeoohpgaeaa
