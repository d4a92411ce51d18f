/- The walks: each of these functions of the program computes what its plain function says: laws_toPoint, spec_l01In, spec_l01Field, spec_l01Point, spec_l01Code, spec_ShiftBy, impl_IsField, impl_isNumber, impl_areNumbers, impl_isPoint, impl_ShiftBy_1, impl_asked__impl_ShiftBy_1, impl_ShiftBy, laws_eqInt64A4. -/
import Derived.Test.YthpbbnffgfjdbaaDoorProg
import Derived.Test.YthpbbnffgfjdbaaDoorD1
import Derived.WalkKit
import Derived.KernelRfl
import Derived.BigQuiet
import Derived.Deep.LoopGhost
import Derived.Laws.StructEq
namespace Go.Proofs.YthpbbnffgfjdbaaDoor
open Go Go.RowKit
attribute [local go_sem] Oper.quiet Oper.quietAt Oper.quietUpon
attribute [local irreducible] wpList
set_option linter.unusedVariables false
set_option linter.unusedSimpArgs false

set_option maxHeartbeats 4000000 in
set_option maxRecDepth 100000 in
theorem laws_toPoint.calls (K : Nat) (a0_0 : Int) (a0_1 : Int) (r0 : Int) (r1 : Int) (w : World)  (h : laws_toPoint.f K a0_0 a0_1 = some (r0, r1)) :
    Calls Tryd.prog 5 #[.agg #[.int .i64 a0_0, .int .i64 a0_1]] w fun e w' => e = .returned (.agg #[.int .i64 r0, .int .i64 r1]) ∧ Up w w' := by
 have H : (some (a0_0, a0_1) : Option (Int × Int)) = some (r0, r1) := h
 clear h
 simp only [Option.some.injEq, Prod.mk.injEq] at H
 obtain ⟨rfl, rfl⟩ := H
 go_enter Tryd.func5, Tryd.ntmps5
 refine wp_hide (fun Qf hQf => ?_)
 refine wp_seq_k (fun K1 hK1 => ?_)
 refine wp_region_lit ?_
 refine step_new (cs := [.int .i64 a0_0, .int .i64 a0_1]) (T := 22) (f := fun b => .pointer (some ⟨b, 0, none⟩)) rfl (by first | (go_simp; done) | (go_simp; rfl)) ?_
 intro b2 w3 hu lb hb2
 simp only [Act.put, nm1, nm2, nm3, i64_w]
 have lbb2 := Aside0.mk lb
 have ltb2 := Aside0.mk hb2.lt
 clear lb
 have hu4 := Aside0.mk hu
 clear hu
 refine step_new (cs := [.int .i64 0, .int .i64 0]) (T := 24) (f := fun b => .pointer (some ⟨b, 0, none⟩)) rfl (by first | (go_simp; done) | (go_simp; rfl)) ?_
 intro b5 w6 hu lb hb5
 simp only [Act.put, nm1, nm2, nm3, i64_w]
 have lbb5 := Aside0.mk lb
 have ltb5 := Aside0.mk hb5.lt
 clear lb
 have hu7 := Aside0.mk hu
 clear hu
 refine wpList_nil ?_
 (try simp only [Exit.then, Exit.inBlock, ↓reduceIte, Nat.reduceEqDiff])
 refine hK1 _ _ ?_
 refine wp_seq_k (fun K8 hK8 => ?_)
 refine wp_region_lit ?_
 refine step_new (cs := [.int .i64 0, .int .i64 0]) (T := 24) (f := fun b => .pointer (some ⟨b, 0, none⟩)) rfl (by first | (go_simp; done) | (go_simp; rfl)) ?_
 intro b9 w10 hu lb hb9
 simp only [Act.put, nm1, nm2, nm3, i64_w]
 have lbb9 := Aside0.mk lb
 have ltb9 := Aside0.mk hb9.lt
 clear lb
 have hu11 := Aside0.mk hu
 clear hu
 refine wpList_nil ?_
 (try simp only [Exit.then, Exit.inBlock, ↓reduceIte, Nat.reduceEqDiff])
 refine hK8 _ _ ?_
 refine wp_seq_k (fun K12 hK12 => ?_)
 refine wp_seq_k (fun K13 hK13 => ?_)
 refine wp_region_lit ?_
 refine wpList_plain rfl (fun Ko hKo => ?_)
 go_simp
 refine hKo _ _ ?_
 clear hKo Ko
 try simp only [Act.put, nm1, nm2, nm3, i64_w]
 refine wpList_nil ?_
 (try simp only [Exit.then, Exit.inBlock, ↓reduceIte, Nat.reduceEqDiff])
 refine hK13 _ _ ?_
 refine wp_block ?_
 refine wp_loop_rounds 40 ?_
 refine rounds_k (fun K14 hK14 => ?_)
 refine wp_seq_k (fun K15 hK15 => ?_)
 refine wp_seq_k (fun K16 hK16 => ?_)
 refine wp_region_lit ?_
 refine wpList_plain rfl (fun Ko hKo => ?_)
 go_simp
 refine hKo _ _ ?_
 clear hKo Ko
 try simp only [Act.put, nm1, nm2, nm3, i64_w]
 refine wpList_plain rfl (fun Ko hKo => ?_)
 go_simp
 refine hKo _ _ ?_
 clear hKo Ko
 try simp only [Act.put, nm1, nm2, nm3, i64_w]
 refine wpList_nil ?_
 (try simp only [Exit.then, Exit.inBlock, ↓reduceIte, Nat.reduceEqDiff])
 refine hK16 _ _ ?_
 refine wp_cond_true rfl ?_
 refine wp_skip ?_
 (try simp only [Exit.then, Exit.inBlock, ↓reduceIte, Nat.reduceEqDiff])
 refine hK15 _ _ ?_
 refine wp_seq_k (fun K17 hK17 => ?_)
 refine wp_block ?_
 refine wp_region_lit ?_
 refine wpList_plain rfl (fun Ko hKo => ?_)
 go_simp
 refine hKo _ _ ?_
 clear hKo Ko
 try simp only [Act.put, nm1, nm2, nm3, i64_w]
 refine wpList_plain rfl (fun Ko hKo => ?_)
 go_simp
 refine hKo _ _ ?_
 clear hKo Ko
 try simp only [Act.put, nm1, nm2, nm3, i64_w]
 refine wpList_plain rfl (fun Ko hKo => ?_)
 go_simp
 refine hKo _ _ ?_
 clear hKo Ko
 try simp only [Act.put, nm1, nm2, nm3, i64_w]
 have cl0 := (hb2.up (hu7.out.trans hu11.out)).cell (o := 0) rfl
 refine wpList_plain rfl (fun Ko hKo => ?_)
 go_simp
 refine hKo _ _ ?_
 clear hKo Ko
 clear cl0
 try simp only [Act.put, nm1, nm2, nm3, i64_w]
 refine wpList_plain rfl (fun Ko hKo => ?_)
 go_simp
 refine hKo _ _ ?_
 clear hKo Ko
 try simp only [Act.put, nm1, nm2, nm3, i64_w]
 have hB0 := hb9
 have cl0 := hB0.cell (o := 0) rfl
 have fr0 := hB0.free 0
 refine step_store (b := b9) (cs' := [.int .i64 a0_0, .int .i64 0]) (T := 24) (W' := (w10.setCell ⟨b9, 0, none⟩ (.int .i64 a0_0))) rfl rfl (by first | (go_simp; done) | (go_simp; rfl)) ((Sto.refl _ _).setCell 0 _) ((hB0).setCell 0 _) ?_
 clear hB0 cl0 fr0
 intro w18 hs hb20
 have hs19 := Aside0.mk hs
 clear hs
 refine wpList_nil ?_
 (try simp only [Exit.then, Exit.inBlock, ↓reduceIte, Nat.reduceEqDiff])
 refine hK17 _ _ ?_
 refine wp_region_lit ?_
 refine wpList_plain rfl (fun Ko hKo => ?_)
 go_simp
 refine hKo _ _ ?_
 clear hKo Ko
 try simp only [Act.put, nm1, nm2, nm3, i64_w]
 refine wpList_plain rfl (fun Ko hKo => ?_)
 go_simp
 refine hKo _ _ ?_
 clear hKo Ko
 try simp only [Act.put, nm1, nm2, nm3, i64_w]
 try simp only [show wrap64 1 = 1 from wlit rfl]
 refine wpList_plain rfl (fun Ko hKo => ?_)
 go_simp
 refine hKo _ _ ?_
 clear hKo Ko
 try simp only [Act.put, nm1, nm2, nm3, i64_w]
 refine wpList_nil ?_
 (try simp only [Exit.then, Exit.inBlock, ↓reduceIte, Nat.reduceEqDiff])
 refine hK14 _ _ ?_
 refine rounds_k (fun K21 hK21 => ?_)
 refine wp_seq_k (fun K22 hK22 => ?_)
 refine wp_seq_k (fun K23 hK23 => ?_)
 refine wp_region_lit ?_
 refine wpList_plain rfl (fun Ko hKo => ?_)
 go_simp
 refine hKo _ _ ?_
 clear hKo Ko
 try simp only [Act.put, nm1, nm2, nm3, i64_w]
 refine wpList_plain rfl (fun Ko hKo => ?_)
 go_simp
 refine hKo _ _ ?_
 clear hKo Ko
 try simp only [Act.put, nm1, nm2, nm3, i64_w]
 refine wpList_nil ?_
 (try simp only [Exit.then, Exit.inBlock, ↓reduceIte, Nat.reduceEqDiff])
 refine hK23 _ _ ?_
 refine wp_cond_true rfl ?_
 refine wp_skip ?_
 (try simp only [Exit.then, Exit.inBlock, ↓reduceIte, Nat.reduceEqDiff])
 refine hK22 _ _ ?_
 refine wp_seq_k (fun K24 hK24 => ?_)
 refine wp_block ?_
 refine wp_region_lit ?_
 refine wpList_plain rfl (fun Ko hKo => ?_)
 go_simp
 refine hKo _ _ ?_
 clear hKo Ko
 try simp only [Act.put, nm1, nm2, nm3, i64_w]
 refine wpList_plain rfl (fun Ko hKo => ?_)
 go_simp
 refine hKo _ _ ?_
 clear hKo Ko
 try simp only [Act.put, nm1, nm2, nm3, i64_w]
 refine wpList_plain rfl (fun Ko hKo => ?_)
 go_simp
 refine hKo _ _ ?_
 clear hKo Ko
 try simp only [Act.put, nm1, nm2, nm3, i64_w]
 have cl0 := (hb2.up ((hu7.out.trans hu11.out).sto (Nat.le_trans (hu7.out.size) lbb9.out) hs19.out)).cell (o := 1) rfl
 refine wpList_plain rfl (fun Ko hKo => ?_)
 go_simp
 refine hKo _ _ ?_
 clear hKo Ko
 clear cl0
 try simp only [Act.put, nm1, nm2, nm3, i64_w]
 refine wpList_plain rfl (fun Ko hKo => ?_)
 go_simp
 refine hKo _ _ ?_
 clear hKo Ko
 try simp only [Act.put, nm1, nm2, nm3, i64_w]
 have hB0 := hb20
 have cl0 := hB0.cell (o := 1) rfl
 have fr0 := hB0.free 1
 refine step_store (b := b9) (cs' := [.int .i64 a0_0, .int .i64 a0_1]) (T := 24) (W' := (w18.setCell ⟨b9, 1, none⟩ (.int .i64 a0_1))) rfl rfl (by first | (go_simp; done) | (go_simp; rfl)) ((Sto.refl _ _).setCell 1 _) ((hB0).setCell 1 _) ?_
 clear hB0 cl0 fr0
 intro w25 hs hb27
 have hs26 := Aside0.mk hs
 clear hs
 refine wpList_nil ?_
 (try simp only [Exit.then, Exit.inBlock, ↓reduceIte, Nat.reduceEqDiff])
 refine hK24 _ _ ?_
 refine wp_region_lit ?_
 refine wpList_plain rfl (fun Ko hKo => ?_)
 go_simp
 refine hKo _ _ ?_
 clear hKo Ko
 try simp only [Act.put, nm1, nm2, nm3, i64_w]
 refine wpList_plain rfl (fun Ko hKo => ?_)
 go_simp
 refine hKo _ _ ?_
 clear hKo Ko
 try simp only [Act.put, nm1, nm2, nm3, i64_w]
 try simp only [show wrap64 2 = 2 from wlit rfl]
 refine wpList_plain rfl (fun Ko hKo => ?_)
 go_simp
 refine hKo _ _ ?_
 clear hKo Ko
 try simp only [Act.put, nm1, nm2, nm3, i64_w]
 refine wpList_nil ?_
 (try simp only [Exit.then, Exit.inBlock, ↓reduceIte, Nat.reduceEqDiff])
 refine hK21 _ _ ?_
 refine rounds_k (fun K28 hK28 => ?_)
 refine wp_seq_k (fun K29 hK29 => ?_)
 refine wp_seq_k (fun K30 hK30 => ?_)
 refine wp_region_lit ?_
 refine wpList_plain rfl (fun Ko hKo => ?_)
 go_simp
 refine hKo _ _ ?_
 clear hKo Ko
 try simp only [Act.put, nm1, nm2, nm3, i64_w]
 refine wpList_plain rfl (fun Ko hKo => ?_)
 go_simp
 refine hKo _ _ ?_
 clear hKo Ko
 try simp only [Act.put, nm1, nm2, nm3, i64_w]
 refine wpList_nil ?_
 (try simp only [Exit.then, Exit.inBlock, ↓reduceIte, Nat.reduceEqDiff])
 refine hK30 _ _ ?_
 refine wp_cond_false rfl ?_
 refine wp_exit ?_
 (try simp only [Exit.then, Exit.inBlock, ↓reduceIte, Nat.reduceEqDiff])
 refine hK12 _ _ ?_
 refine wp_seq_k (fun K31 hK31 => ?_)
 refine wp_region_lit ?_
 have cl0 := hb27.cell (o := 0) rfl
 have cl1 := hb27.cell (o := 1) rfl
 refine wpList_plain rfl (fun Ko hKo => ?_)
 go_simp
 refine hKo _ _ ?_
 clear hKo Ko
 clear cl0 cl1
 try simp only [Act.put, nm1, nm2, nm3, i64_w]
 have hB0 := (hb5.up ((hu11.out.sto (Nat.le_trans (Nat.le_refl _) lbb9.out) hs19.out).sto (Nat.le_trans (Nat.le_refl _) lbb9.out) hs26.out))
 have cl0 := hB0.cell (o := 0) rfl
 have fr0 := hB0.free 0
 have cl1 := hB0.cell (o := 1) rfl
 have fr1 := hB0.free 1
 refine step_store (b := b5) (cs' := [.int .i64 a0_0, .int .i64 a0_1]) (T := 24) (W' := ((w25.setCell ⟨b5, 0, none⟩ (.int .i64 a0_0)).setCell ⟨b5, 1, none⟩ (.int .i64 a0_1))) rfl rfl (by first | (go_simp; done) | (go_simp; rfl)) (((Sto.refl _ _).setCell 0 _).setCell 1 _) (((hB0).setCell 0 _).setCell 1 _) ?_
 clear hB0 cl0 fr0 cl1 fr1
 intro w32 hs hb34
 have hs33 := Aside0.mk hs
 clear hs
 have h35 := hb27.sto hs33.out (Ne.symm (Nat.ne_of_lt (Nat.lt_of_lt_of_le ltb5.out lbb9.out)))
 refine wpList_nil ?_
 (try simp only [Exit.then, Exit.inBlock, ↓reduceIte, Nat.reduceEqDiff])
 refine hK31 _ _ ?_
 refine wp_ret ?_
 (try simp only [Exit.then, Exit.inBlock, ↓reduceIte, Nat.reduceEqDiff])
 refine hQf _ _ _ ?_
 have cr0 := hb34.cell (o := 0) rfl
 have cr1 := hb34.cell (o := 1) rfl
 exact bodyPost_ret (v := .agg #[.int .i64 a0_0, .int .i64 a0_1]) (by first | rfl | (simp [results, Tryd.results5, go_sem, cr0, cr1]; done) | (simp [results, Tryd.results5, go_sem, cr0, cr1]; rfl)) rfl ⟨rfl, (((((hu4.out.trans hu7.out).trans hu11.out).sto (Nat.le_trans ((Nat.le_trans (hu4.out.size) hu7.out.size)) lbb9.out) hs19.out).sto (Nat.le_trans ((Nat.le_trans (hu4.out.size) hu7.out.size)) lbb9.out) hs26.out).sto (Nat.le_trans (hu4.out.size) lbb5.out) hs33.out)⟩

set_option maxHeartbeats 4000000 in
set_option maxRecDepth 100000 in
theorem spec_l01In.calls (K : Nat) (a0 : Int) (a1 : Int) (a2 : Int) (r0 : Bool) (w : World)  (h : spec_l01In.f K a0 a1 a2 = some (r0)) :
    Calls Tryd.prog 18 #[.int .i64 a0, .int .i64 a1, .int .i64 a2] w fun e w' => e = .returned (.bool r0) ∧ Up w w' := by
 have H : ((if decide (a1 ≤ a0) = true then some (decide (a0 ≤ a2)) else some false) : Option (Bool)) = some (r0) := h
 clear h
 by_cases c3 : (decide (a1 ≤ a0)) = true
 ·
  rw [if_pos c3] at H
  obtain rfl := Option.some.inj H
  go_enter Tryd.func18, Tryd.ntmps18
  refine wp_hide (fun Qf hQf => ?_)
  refine wp_seq_k (fun K1 hK1 => ?_)
  refine wp_region_lit ?_
  refine wpList_plain rfl (fun Ko hKo => ?_)
  go_simp
  refine hKo _ _ ?_
  clear hKo Ko
  try simp only [Act.put, nm1, nm2, nm3, i64_w]
  refine wpList_nil ?_
  (try simp only [Exit.then, Exit.inBlock, ↓reduceIte, Nat.reduceEqDiff])
  refine hK1 _ _ ?_
  refine wp_seq_k (fun K2 hK2 => ?_)
  refine wp_region_lit ?_
  refine wpList_plain rfl (fun Ko hKo => ?_)
  go_simp
  refine hKo _ _ ?_
  clear hKo Ko
  try simp only [Act.put, nm1, nm2, nm3, i64_w]
  refine wpList_plain rfl (fun Ko hKo => ?_)
  go_simp
  refine hKo _ _ ?_
  clear hKo Ko
  try simp only [Act.put, nm1, nm2, nm3, i64_w]
  refine wpList_plain rfl (fun Ko hKo => ?_)
  go_simp
  refine hKo _ _ ?_
  clear hKo Ko
  try simp only [Act.put, nm1, nm2, nm3, i64_w]
  refine wpList_plain rfl (fun Ko hKo => ?_)
  go_simp
  refine hKo _ _ ?_
  clear hKo Ko
  try simp only [Act.put, nm1, nm2, nm3, i64_w]
  refine wpList_step (fun Ko hKo => ?_)
  go_simp
  refine hKo _ _ ?_
  clear hKo Ko
  try simp only [Act.put, nm1, nm2, nm3, i64_w]
  refine wpList_step (fun Ko hKo => ?_)
  go_simp
  refine hKo _ _ ?_
  clear hKo Ko
  try simp only [Act.put, nm1, nm2, nm3, i64_w]
  refine wpList_step (fun Ko hKo => ?_)
  go_simp
  refine hKo _ _ ?_
  clear hKo Ko
  try simp only [Act.put, nm1, nm2, nm3, i64_w]
  refine wpList_plain rfl (fun Ko hKo => ?_)
  go_simp
  refine hKo _ _ ?_
  clear hKo Ko
  try simp only [Act.put, nm1, nm2, nm3, i64_w]
  refine wpList_plain rfl (fun Ko hKo => ?_)
  go_simp
  refine hKo _ _ ?_
  clear hKo Ko
  try simp only [Act.put, nm1, nm2, nm3, i64_w]
  refine wpList_nil ?_
  (try simp only [Exit.then, Exit.inBlock, ↓reduceIte, Nat.reduceEqDiff])
  refine hK2 _ _ ?_
  refine wp_ret ?_
  (try simp only [Exit.then, Exit.inBlock, ↓reduceIte, Nat.reduceEqDiff])
  refine hQf _ _ _ ?_
  exact bodyPost_ret (v := .bool (decide (a0 ≤ a2))) (by first | rfl | (simp [results, Tryd.results18, go_sem]; done) | (simp [results, Tryd.results18, go_sem]; rfl)) rfl ⟨rfl, (Up.refl _)⟩
 ·
  rw [if_neg c3] at H
  replace c3 := Bool.eq_false_iff.mpr c3
  obtain rfl := Option.some.inj H
  go_enter Tryd.func18, Tryd.ntmps18
  refine wp_hide (fun Qf hQf => ?_)
  refine wp_seq_k (fun K1 hK1 => ?_)
  refine wp_region_lit ?_
  refine wpList_plain rfl (fun Ko hKo => ?_)
  go_simp
  refine hKo _ _ ?_
  clear hKo Ko
  try simp only [Act.put, nm1, nm2, nm3, i64_w]
  refine wpList_nil ?_
  (try simp only [Exit.then, Exit.inBlock, ↓reduceIte, Nat.reduceEqDiff])
  refine hK1 _ _ ?_
  refine wp_seq_k (fun K2 hK2 => ?_)
  refine wp_region_lit ?_
  refine wpList_plain rfl (fun Ko hKo => ?_)
  go_simp
  refine hKo _ _ ?_
  clear hKo Ko
  try simp only [Act.put, nm1, nm2, nm3, i64_w]
  refine wpList_plain rfl (fun Ko hKo => ?_)
  go_simp
  refine hKo _ _ ?_
  clear hKo Ko
  try simp only [Act.put, nm1, nm2, nm3, i64_w]
  refine wpList_plain rfl (fun Ko hKo => ?_)
  go_simp
  refine hKo _ _ ?_
  clear hKo Ko
  try simp only [Act.put, nm1, nm2, nm3, i64_w]
  refine wpList_plain rfl (fun Ko hKo => ?_)
  go_simp
  refine hKo _ _ ?_
  clear hKo Ko
  try simp only [Act.put, nm1, nm2, nm3, i64_w]
  refine step_no rfl ?_
  simp only [Act.put, nm1, nm2, nm3, i64_w]
  refine step_no rfl ?_
  simp only [Act.put, nm1, nm2, nm3, i64_w]
  refine step_no rfl ?_
  simp only [Act.put, nm1, nm2, nm3, i64_w]
  refine wpList_plain rfl (fun Ko hKo => ?_)
  go_simp
  refine hKo _ _ ?_
  clear hKo Ko
  try simp only [Act.put, nm1, nm2, nm3, i64_w]
  refine wpList_plain rfl (fun Ko hKo => ?_)
  go_simp
  refine hKo _ _ ?_
  clear hKo Ko
  try simp only [Act.put, nm1, nm2, nm3, i64_w]
  refine wpList_nil ?_
  (try simp only [Exit.then, Exit.inBlock, ↓reduceIte, Nat.reduceEqDiff])
  refine hK2 _ _ ?_
  refine wp_ret ?_
  (try simp only [Exit.then, Exit.inBlock, ↓reduceIte, Nat.reduceEqDiff])
  refine hQf _ _ _ ?_
  exact bodyPost_ret (v := .bool false) (by first | rfl | (simp [results, Tryd.results18, go_sem]; done) | (simp [results, Tryd.results18, go_sem]; rfl)) rfl ⟨rfl, (Up.refl _)⟩

set_option maxHeartbeats 4000000 in
set_option maxRecDepth 100000 in
theorem spec_l01Field.calls (K : Nat) (a0 : Int) (r0 : Bool) (w : World)  (h : spec_l01Field.f K a0 = some (r0)) :
    Calls Tryd.prog 14 #[.int .i64 a0] w fun e w' => e = .returned (.bool r0) ∧ Up w w' := by
 have H : (((spec_l01In.f K a0 3 31).bind fun t4 => (if t4 = true then (spec_l01Field.l0 K a0 K 2) else some false)) : Option (Bool)) = some (r0) := h
 clear h
 replace H := Option.bind_eq_some_iff.mp H
 obtain ⟨t4, A5, H⟩ := H
 replace A5 := Aside0.mk A5
 try dsimp only at H
 by_cases c8 : (t4) = true
 ·
  rw [if_pos c8] at H
  subst c8
  go_enter Tryd.func14, Tryd.ntmps14
  refine wp_hide (fun Qf hQf => ?_)
  refine wp_seq_k (fun K1 hK1 => ?_)
  refine wp_region_lit ?_
  refine wpList_plain rfl (fun Ko hKo => ?_)
  go_simp
  refine hKo _ _ ?_
  clear hKo Ko
  try simp only [Act.put, nm1, nm2, nm3, i64_w]
  refine wpList_nil ?_
  (try simp only [Exit.then, Exit.inBlock, ↓reduceIte, Nat.reduceEqDiff])
  refine hK1 _ _ ?_
  refine wp_seq_k (fun K2 hK2 => ?_)
  refine wp_seq_k (fun K3 hK3 => ?_)
  refine wp_region_lit ?_
  refine wpList_plain rfl (fun Ko hKo => ?_)
  go_simp
  refine hKo _ _ ?_
  clear hKo Ko
  try simp only [Act.put, nm1, nm2, nm3, i64_w]
  refine step_call (wanted_none rfl) (by first | (go_simp; done) | (go_simp; rfl)) (spec_l01In.calls K a0 3 31 true w  A5.out) ?_
  rintro e w6 ⟨rfl, hu⟩
  have hu7 := Aside0.mk hu
  clear hu
  refine ⟨_, rfl, ?_⟩
  simp only [Act.put, nm1, nm2, nm3, i64_w]
  refine wpList_plain rfl (fun Ko hKo => ?_)
  go_simp
  refine hKo _ _ ?_
  clear hKo Ko
  try simp only [Act.put, nm1, nm2, nm3, i64_w]
  refine wpList_nil ?_
  (try simp only [Exit.then, Exit.inBlock, ↓reduceIte, Nat.reduceEqDiff])
  refine hK3 _ _ ?_
  refine wp_cond_false rfl ?_
  refine wp_skip ?_
  (try simp only [Exit.then, Exit.inBlock, ↓reduceIte, Nat.reduceEqDiff])
  refine hK2 _ _ ?_
  refine wp_seq_k (fun K9 hK9 => ?_)
  refine wp_seq_k (fun K10 hK10 => ?_)
  refine wp_region_lit ?_
  refine wpList_plain rfl (fun Ko hKo => ?_)
  go_simp
  refine hKo _ _ ?_
  clear hKo Ko
  try simp only [Act.put, nm1, nm2, nm3, i64_w]
  refine wpList_nil ?_
  (try simp only [Exit.then, Exit.inBlock, ↓reduceIte, Nat.reduceEqDiff])
  refine hK10 _ _ ?_
  refine wp_block ?_
  have HL15 := Aside0.mk H
  clear H
  go_loopg [3] K (fun kq v3 w' => ∃ (x11 : Int), v3 = .int .i64 x11 ∧ Aside0 (spec_l01Field.l0 K a0 kq x11 = some (r0)) ∧ Aside0 (kq ≤ K) ∧ Aside0 (Up w6 w') ∧ Aside0 (w6.heap.size ≤ w'.heap.size))
  case atStart => exact ⟨2, (by first | rfl | simp), HL15, ⟨Nat.le_refl _⟩, ⟨(Up.refl _)⟩, ⟨Nat.le_refl _⟩⟩
  case round =>
   rename_i J19 K20 hJ19 hK20
   obtain ⟨x11, rfl, HL18, hk17, hu13, hz14⟩ := hrel
   obtain ⟨w12, rfl⟩ : ∃ wo : World, wo = wr := ⟨_, rfl⟩
   obtain ⟨k16, rfl⟩ | rfl : (∃ k, gk = k + 1) ∨ gk = 0 := by rcases gk with _ | k; exact .inr rfl; exact .inl ⟨k, rfl⟩
   case inr => exact absurd HL18.out (by simp [spec_l01Field.l0])
   have H := HL18.out
   clear HL18
   rw [spec_l01Field.l0] at H
   by_cases c23 : (decide ((wrap64 (x11 * x11)) ≤ a0)) = true
   ·
    rw [if_pos c23] at H
    by_cases c26 : (x11 == 0) = true
    ·
     rw [if_pos c26] at H
     have c26n : (x11 != 0) = false := by rw [bne, c26]; rfl
     exact absurd H (by simp)
    ·
     rw [if_neg c26] at H
     replace c26 := Bool.eq_false_iff.mpr c26
     have c26n : (x11 != 0) = true := by rw [bne, c26]; rfl
     have c26p : ¬ x11 = 0 := fun e => by simp [e] at c26
     by_cases c27 : ((Int.tmod a0 x11) == 0) = true
     ·
      rw [if_pos c27] at H
      have c27n : ((Int.tmod a0 x11) != 0) = false := by rw [bne, c27]; rfl
      obtain rfl := Option.some.inj H
      refine wp_seq_k (fun K21 hK21 => ?_)
      refine wp_seq_k (fun K22 hK22 => ?_)
      refine wp_region_lit ?_
      refine wpList_plain rfl (fun Ko hKo => ?_)
      go_simp
      refine hKo _ _ ?_
      clear hKo Ko
      try simp only [Act.put, nm1, nm2, nm3, i64_w]
      refine wpList_plain rfl (fun Ko hKo => ?_)
      go_simp
      refine hKo _ _ ?_
      clear hKo Ko
      try simp only [Act.put, nm1, nm2, nm3, i64_w]
      refine wpList_plain rfl (fun Ko hKo => ?_)
      go_simp
      refine hKo _ _ ?_
      clear hKo Ko
      try simp only [Act.put, nm1, nm2, nm3, i64_w]
      refine wpList_plain rfl (fun Ko hKo => ?_)
      go_simp
      refine hKo _ _ ?_
      clear hKo Ko
      try simp only [Act.put, nm1, nm2, nm3, i64_w]
      refine wpList_plain rfl (fun Ko hKo => ?_)
      go_simp
      refine hKo _ _ ?_
      clear hKo Ko
      try simp only [Act.put, nm1, nm2, nm3, i64_w]
      refine wpList_nil ?_
      (try simp only [Exit.then, Exit.inBlock, ↓reduceIte, Nat.reduceEqDiff])
      refine hK22 _ _ ?_
      refine wp_cond_true rfl ?_
      refine wp_skip ?_
      (try simp only [Exit.then, Exit.inBlock, ↓reduceIte, Nat.reduceEqDiff])
      refine hK21 _ _ ?_
      refine wp_seq_k (fun K24 hK24 => ?_)
      refine wp_block ?_
      refine wp_seq_k (fun K25 hK25 => ?_)
      refine wp_region_lit ?_
      refine wpList_plain rfl (fun Ko hKo => ?_)
      go_simp
      refine hKo _ _ ?_
      clear hKo Ko
      try simp only [Act.put, nm1, nm2, nm3, i64_w]
      refine wpList_plain rfl (fun Ko hKo => ?_)
      go_simp
      refine hKo _ _ ?_
      clear hKo Ko
      try simp only [Act.put, nm1, nm2, nm3, i64_w]
      refine wpList_plain rfl (fun Ko hKo => ?_)
      go_simp
      refine hKo _ _ ?_
      clear hKo Ko
      try simp only [Act.put, nm1, nm2, nm3, i64_w]
      refine wpList_plain rfl (fun Ko hKo => ?_)
      go_simp
      refine hKo _ _ ?_
      clear hKo Ko
      try simp only [Act.put, nm1, nm2, nm3, i64_w]
      refine wpList_nil ?_
      (try simp only [Exit.then, Exit.inBlock, ↓reduceIte, Nat.reduceEqDiff])
      refine hK25 _ _ ?_
      refine wp_cond_true rfl ?_
      refine wp_seq_k (fun K28 hK28 => ?_)
      refine wp_region_lit ?_
      refine wpList_plain rfl (fun Ko hKo => ?_)
      go_simp
      refine hKo _ _ ?_
      clear hKo Ko
      try simp only [Act.put, nm1, nm2, nm3, i64_w]
      refine wpList_nil ?_
      (try simp only [Exit.then, Exit.inBlock, ↓reduceIte, Nat.reduceEqDiff])
      refine hK28 _ _ ?_
      refine wp_ret ?_
      (try simp only [Exit.then, Exit.inBlock, ↓reduceIte, Nat.reduceEqDiff])
      refine hQf _ _ _ ?_
      exact bodyPost_ret (v := .bool false) (by first | rfl | (simp [results, Tryd.results14, go_sem]; done) | (simp [results, Tryd.results14, go_sem]; rfl)) rfl ⟨rfl, (hu7.out.trans hu13.out)⟩
     ·
      rw [if_neg c27] at H
      replace c27 := Bool.eq_false_iff.mpr c27
      have c27n : ((Int.tmod a0 x11) != 0) = true := by rw [bne, c27]; rfl
      have c27p : ¬ (Int.tmod a0 x11) = 0 := fun e => by simp [e] at c27
      have HL29 := Aside0.mk H
      clear H
      refine wp_seq_k (fun K21 hK21 => ?_)
      refine wp_seq_k (fun K22 hK22 => ?_)
      refine wp_region_lit ?_
      refine wpList_plain rfl (fun Ko hKo => ?_)
      go_simp
      refine hKo _ _ ?_
      clear hKo Ko
      try simp only [Act.put, nm1, nm2, nm3, i64_w]
      refine wpList_plain rfl (fun Ko hKo => ?_)
      go_simp
      refine hKo _ _ ?_
      clear hKo Ko
      try simp only [Act.put, nm1, nm2, nm3, i64_w]
      refine wpList_plain rfl (fun Ko hKo => ?_)
      go_simp
      refine hKo _ _ ?_
      clear hKo Ko
      try simp only [Act.put, nm1, nm2, nm3, i64_w]
      refine wpList_plain rfl (fun Ko hKo => ?_)
      go_simp
      refine hKo _ _ ?_
      clear hKo Ko
      try simp only [Act.put, nm1, nm2, nm3, i64_w]
      refine wpList_plain rfl (fun Ko hKo => ?_)
      go_simp
      refine hKo _ _ ?_
      clear hKo Ko
      try simp only [Act.put, nm1, nm2, nm3, i64_w]
      refine wpList_nil ?_
      (try simp only [Exit.then, Exit.inBlock, ↓reduceIte, Nat.reduceEqDiff])
      refine hK22 _ _ ?_
      refine wp_cond_true rfl ?_
      refine wp_skip ?_
      (try simp only [Exit.then, Exit.inBlock, ↓reduceIte, Nat.reduceEqDiff])
      refine hK21 _ _ ?_
      refine wp_seq_k (fun K24 hK24 => ?_)
      refine wp_block ?_
      refine wp_seq_k (fun K25 hK25 => ?_)
      refine wp_region_lit ?_
      refine wpList_plain rfl (fun Ko hKo => ?_)
      go_simp
      refine hKo _ _ ?_
      clear hKo Ko
      try simp only [Act.put, nm1, nm2, nm3, i64_w]
      refine wpList_plain rfl (fun Ko hKo => ?_)
      go_simp
      refine hKo _ _ ?_
      clear hKo Ko
      try simp only [Act.put, nm1, nm2, nm3, i64_w]
      refine wpList_plain rfl (fun Ko hKo => ?_)
      go_simp
      refine hKo _ _ ?_
      clear hKo Ko
      try simp only [Act.put, nm1, nm2, nm3, i64_w]
      refine wpList_plain rfl (fun Ko hKo => ?_)
      go_simp
      refine hKo _ _ ?_
      clear hKo Ko
      try simp only [Act.put, nm1, nm2, nm3, i64_w]
      refine wpList_nil ?_
      (try simp only [Exit.then, Exit.inBlock, ↓reduceIte, Nat.reduceEqDiff])
      refine hK25 _ _ ?_
      refine wp_cond_false rfl ?_
      refine wp_skip ?_
      (try simp only [Exit.then, Exit.inBlock, ↓reduceIte, Nat.reduceEqDiff])
      refine hK24 _ _ ?_
      refine wp_region_lit ?_
      refine wpList_plain rfl (fun Ko hKo => ?_)
      go_simp
      refine hKo _ _ ?_
      clear hKo Ko
      try simp only [Act.put, nm1, nm2, nm3, i64_w]
      refine wpList_plain rfl (fun Ko hKo => ?_)
      go_simp
      refine hKo _ _ ?_
      clear hKo Ko
      try simp only [Act.put, nm1, nm2, nm3, i64_w]
      refine wpList_plain rfl (fun Ko hKo => ?_)
      go_simp
      refine hKo _ _ ?_
      clear hKo Ko
      try simp only [Act.put, nm1, nm2, nm3, i64_w]
      refine wpList_nil ?_
      (try simp only [Exit.then, Exit.inBlock, ↓reduceIte, Nat.reduceEqDiff])
      refine hK20 _ _ ?_
      go_roundg k16
      case measure => exact Nat.lt_succ_self _
      case rel => exact ⟨wrap64 (x11 + 1), (by first | rfl | simp), HL29, ⟨by have := hk17.out; omega⟩, ⟨hu13.out⟩, ⟨(Nat.le_trans (Nat.le_refl _) hz14.out)⟩⟩
   ·
    rw [if_neg c23] at H
    replace c23 := Bool.eq_false_iff.mpr c23
    obtain rfl := Option.some.inj H
    refine wp_seq_k (fun K21 hK21 => ?_)
    refine wp_seq_k (fun K22 hK22 => ?_)
    refine wp_region_lit ?_
    refine wpList_plain rfl (fun Ko hKo => ?_)
    go_simp
    refine hKo _ _ ?_
    clear hKo Ko
    try simp only [Act.put, nm1, nm2, nm3, i64_w]
    refine wpList_plain rfl (fun Ko hKo => ?_)
    go_simp
    refine hKo _ _ ?_
    clear hKo Ko
    try simp only [Act.put, nm1, nm2, nm3, i64_w]
    refine wpList_plain rfl (fun Ko hKo => ?_)
    go_simp
    refine hKo _ _ ?_
    clear hKo Ko
    try simp only [Act.put, nm1, nm2, nm3, i64_w]
    refine wpList_plain rfl (fun Ko hKo => ?_)
    go_simp
    refine hKo _ _ ?_
    clear hKo Ko
    try simp only [Act.put, nm1, nm2, nm3, i64_w]
    refine wpList_plain rfl (fun Ko hKo => ?_)
    go_simp
    refine hKo _ _ ?_
    clear hKo Ko
    try simp only [Act.put, nm1, nm2, nm3, i64_w]
    refine wpList_nil ?_
    (try simp only [Exit.then, Exit.inBlock, ↓reduceIte, Nat.reduceEqDiff])
    refine hK22 _ _ ?_
    refine wp_cond_false rfl ?_
    refine wp_exit ?_
    (try simp only [Exit.then, Exit.inBlock, ↓reduceIte, Nat.reduceEqDiff])
    refine hK9 _ _ ?_
    refine wp_seq_k (fun K30 hK30 => ?_)
    refine wp_region_lit ?_
    refine wpList_plain rfl (fun Ko hKo => ?_)
    go_simp
    refine hKo _ _ ?_
    clear hKo Ko
    try simp only [Act.put, nm1, nm2, nm3, i64_w]
    refine wpList_nil ?_
    (try simp only [Exit.then, Exit.inBlock, ↓reduceIte, Nat.reduceEqDiff])
    refine hK30 _ _ ?_
    refine wp_ret ?_
    (try simp only [Exit.then, Exit.inBlock, ↓reduceIte, Nat.reduceEqDiff])
    refine hQf _ _ _ ?_
    exact bodyPost_ret (v := .bool true) (by first | rfl | (simp [results, Tryd.results14, go_sem]; done) | (simp [results, Tryd.results14, go_sem]; rfl)) rfl ⟨rfl, (hu7.out.trans hu13.out)⟩
 ·
  rw [if_neg c8] at H
  replace c8 := Bool.eq_false_iff.mpr c8
  subst c8
  obtain rfl := Option.some.inj H
  go_enter Tryd.func14, Tryd.ntmps14
  refine wp_hide (fun Qf hQf => ?_)
  refine wp_seq_k (fun K1 hK1 => ?_)
  refine wp_region_lit ?_
  refine wpList_plain rfl (fun Ko hKo => ?_)
  go_simp
  refine hKo _ _ ?_
  clear hKo Ko
  try simp only [Act.put, nm1, nm2, nm3, i64_w]
  refine wpList_nil ?_
  (try simp only [Exit.then, Exit.inBlock, ↓reduceIte, Nat.reduceEqDiff])
  refine hK1 _ _ ?_
  refine wp_seq_k (fun K2 hK2 => ?_)
  refine wp_seq_k (fun K3 hK3 => ?_)
  refine wp_region_lit ?_
  refine wpList_plain rfl (fun Ko hKo => ?_)
  go_simp
  refine hKo _ _ ?_
  clear hKo Ko
  try simp only [Act.put, nm1, nm2, nm3, i64_w]
  refine step_call (wanted_none rfl) (by first | (go_simp; done) | (go_simp; rfl)) (spec_l01In.calls K a0 3 31 false w  A5.out) ?_
  rintro e w6 ⟨rfl, hu⟩
  have hu7 := Aside0.mk hu
  clear hu
  refine ⟨_, rfl, ?_⟩
  simp only [Act.put, nm1, nm2, nm3, i64_w]
  refine wpList_plain rfl (fun Ko hKo => ?_)
  go_simp
  refine hKo _ _ ?_
  clear hKo Ko
  try simp only [Act.put, nm1, nm2, nm3, i64_w]
  refine wpList_nil ?_
  (try simp only [Exit.then, Exit.inBlock, ↓reduceIte, Nat.reduceEqDiff])
  refine hK3 _ _ ?_
  refine wp_cond_true rfl ?_
  refine wp_seq_k (fun K31 hK31 => ?_)
  refine wp_region_lit ?_
  refine wpList_plain rfl (fun Ko hKo => ?_)
  go_simp
  refine hKo _ _ ?_
  clear hKo Ko
  try simp only [Act.put, nm1, nm2, nm3, i64_w]
  refine wpList_nil ?_
  (try simp only [Exit.then, Exit.inBlock, ↓reduceIte, Nat.reduceEqDiff])
  refine hK31 _ _ ?_
  refine wp_ret ?_
  (try simp only [Exit.then, Exit.inBlock, ↓reduceIte, Nat.reduceEqDiff])
  refine hQf _ _ _ ?_
  exact bodyPost_ret (v := .bool false) (by first | rfl | (simp [results, Tryd.results14, go_sem]; done) | (simp [results, Tryd.results14, go_sem]; rfl)) rfl ⟨rfl, hu7.out⟩

set_option maxHeartbeats 4000000 in
set_option maxRecDepth 100000 in
theorem spec_l01Point.calls (K : Nat) (a0 : Int) (a1_0 : Int) (a1_1 : Int) (r0 : Bool) (w : World)  (h : spec_l01Point.f K a0 a1_0 a1_1 = some (r0)) :
    Calls Tryd.prog 15 #[.int .i64 a0, .agg #[.int .i64 a1_0, .int .i64 a1_1]] w fun e w' => e = .returned (.bool r0) ∧ Up w w' := by
 have H : (((spec_l01In.f K a1_0 0 (wrap64 (a0 - 1))).bind fun t6 => (if t6 = true then ((spec_l01In.f K a1_1 0 (wrap64 (a0 - 1))).bind fun t11 => some t11) else some false)) : Option (Bool)) = some (r0) := h
 clear h
 replace H := Option.bind_eq_some_iff.mp H
 obtain ⟨t6, A7, H⟩ := H
 replace A7 := Aside0.mk A7
 try dsimp only at H
 by_cases c10 : (t6) = true
 ·
  rw [if_pos c10] at H
  subst c10
  replace H := Option.bind_eq_some_iff.mp H
  obtain ⟨t11, A12, H⟩ := H
  replace A12 := Aside0.mk A12
  try dsimp only at H
  obtain rfl := Option.some.inj H
  go_enter Tryd.func15, Tryd.ntmps15
  refine wp_hide (fun Qf hQf => ?_)
  refine wp_seq_k (fun K1 hK1 => ?_)
  refine wp_region_lit ?_
  refine step_new (cs := [.int .i64 a1_0, .int .i64 a1_1]) (T := 24) (f := fun b => .pointer (some ⟨b, 0, none⟩)) rfl (by first | (go_simp; done) | (go_simp; rfl)) ?_
  intro b2 w3 hu lb hb2
  simp only [Act.put, nm1, nm2, nm3, i64_w]
  have lbb2 := Aside0.mk lb
  have ltb2 := Aside0.mk hb2.lt
  clear lb
  have hu4 := Aside0.mk hu
  clear hu
  refine wpList_plain rfl (fun Ko hKo => ?_)
  go_simp
  refine hKo _ _ ?_
  clear hKo Ko
  try simp only [Act.put, nm1, nm2, nm3, i64_w]
  refine wpList_nil ?_
  (try simp only [Exit.then, Exit.inBlock, ↓reduceIte, Nat.reduceEqDiff])
  refine hK1 _ _ ?_
  refine wp_seq_k (fun K5 hK5 => ?_)
  refine wp_region_lit ?_
  refine wpList_plain rfl (fun Ko hKo => ?_)
  go_simp
  refine hKo _ _ ?_
  clear hKo Ko
  try simp only [Act.put, nm1, nm2, nm3, i64_w]
  have cl0 := hb2.cell (o := 0) rfl
  refine wpList_plain rfl (fun Ko hKo => ?_)
  go_simp
  refine hKo _ _ ?_
  clear hKo Ko
  clear cl0
  try simp only [Act.put, nm1, nm2, nm3, i64_w]
  refine wpList_plain rfl (fun Ko hKo => ?_)
  go_simp
  refine hKo _ _ ?_
  clear hKo Ko
  try simp only [Act.put, nm1, nm2, nm3, i64_w]
  refine wpList_plain rfl (fun Ko hKo => ?_)
  go_simp
  refine hKo _ _ ?_
  clear hKo Ko
  try simp only [Act.put, nm1, nm2, nm3, i64_w]
  refine step_call (wanted_none rfl) (by first | (go_simp; done) | (go_simp; rfl)) (spec_l01In.calls K a1_0 0 (wrap64 (a0 - 1)) true w3  A7.out) ?_
  rintro e w8 ⟨rfl, hu⟩
  have hu9 := Aside0.mk hu
  clear hu
  refine ⟨_, rfl, ?_⟩
  simp only [Act.put, nm1, nm2, nm3, i64_w]
  refine wpList_plain rfl (fun Ko hKo => ?_)
  go_simp
  refine hKo _ _ ?_
  clear hKo Ko
  try simp only [Act.put, nm1, nm2, nm3, i64_w]
  refine wpList_step (fun Ko hKo => ?_)
  go_simp
  refine hKo _ _ ?_
  clear hKo Ko
  try simp only [Act.put, nm1, nm2, nm3, i64_w]
  have cl0 := (hb2.up hu9.out).cell (o := 1) rfl
  refine wpList_step (fun Ko hKo => ?_)
  go_simp
  refine hKo _ _ ?_
  clear hKo Ko
  clear cl0
  try simp only [Act.put, nm1, nm2, nm3, i64_w]
  refine wpList_step (fun Ko hKo => ?_)
  go_simp
  refine hKo _ _ ?_
  clear hKo Ko
  try simp only [Act.put, nm1, nm2, nm3, i64_w]
  refine wpList_step (fun Ko hKo => ?_)
  go_simp
  refine hKo _ _ ?_
  clear hKo Ko
  try simp only [Act.put, nm1, nm2, nm3, i64_w]
  refine step_call rfl (by first | (go_simp; done) | (go_simp; rfl)) (spec_l01In.calls K a1_1 0 (wrap64 (a0 - 1)) t11 w8  A12.out) ?_
  rintro e w13 ⟨rfl, hu⟩
  have hu14 := Aside0.mk hu
  clear hu
  refine ⟨_, rfl, ?_⟩
  simp only [Act.put, nm1, nm2, nm3, i64_w]
  refine wpList_plain rfl (fun Ko hKo => ?_)
  go_simp
  refine hKo _ _ ?_
  clear hKo Ko
  try simp only [Act.put, nm1, nm2, nm3, i64_w]
  refine wpList_plain rfl (fun Ko hKo => ?_)
  go_simp
  refine hKo _ _ ?_
  clear hKo Ko
  try simp only [Act.put, nm1, nm2, nm3, i64_w]
  refine wpList_nil ?_
  (try simp only [Exit.then, Exit.inBlock, ↓reduceIte, Nat.reduceEqDiff])
  refine hK5 _ _ ?_
  refine wp_ret ?_
  (try simp only [Exit.then, Exit.inBlock, ↓reduceIte, Nat.reduceEqDiff])
  refine hQf _ _ _ ?_
  exact bodyPost_ret (v := .bool t11) (by first | rfl | (simp [results, Tryd.results15, go_sem]; done) | (simp [results, Tryd.results15, go_sem]; rfl)) rfl ⟨rfl, ((hu4.out.trans hu9.out).trans hu14.out)⟩
 ·
  rw [if_neg c10] at H
  replace c10 := Bool.eq_false_iff.mpr c10
  subst c10
  obtain rfl := Option.some.inj H
  go_enter Tryd.func15, Tryd.ntmps15
  refine wp_hide (fun Qf hQf => ?_)
  refine wp_seq_k (fun K1 hK1 => ?_)
  refine wp_region_lit ?_
  refine step_new (cs := [.int .i64 a1_0, .int .i64 a1_1]) (T := 24) (f := fun b => .pointer (some ⟨b, 0, none⟩)) rfl (by first | (go_simp; done) | (go_simp; rfl)) ?_
  intro b2 w3 hu lb hb2
  simp only [Act.put, nm1, nm2, nm3, i64_w]
  have lbb2 := Aside0.mk lb
  have ltb2 := Aside0.mk hb2.lt
  clear lb
  have hu4 := Aside0.mk hu
  clear hu
  refine wpList_plain rfl (fun Ko hKo => ?_)
  go_simp
  refine hKo _ _ ?_
  clear hKo Ko
  try simp only [Act.put, nm1, nm2, nm3, i64_w]
  refine wpList_nil ?_
  (try simp only [Exit.then, Exit.inBlock, ↓reduceIte, Nat.reduceEqDiff])
  refine hK1 _ _ ?_
  refine wp_seq_k (fun K5 hK5 => ?_)
  refine wp_region_lit ?_
  refine wpList_plain rfl (fun Ko hKo => ?_)
  go_simp
  refine hKo _ _ ?_
  clear hKo Ko
  try simp only [Act.put, nm1, nm2, nm3, i64_w]
  have cl0 := hb2.cell (o := 0) rfl
  refine wpList_plain rfl (fun Ko hKo => ?_)
  go_simp
  refine hKo _ _ ?_
  clear hKo Ko
  clear cl0
  try simp only [Act.put, nm1, nm2, nm3, i64_w]
  refine wpList_plain rfl (fun Ko hKo => ?_)
  go_simp
  refine hKo _ _ ?_
  clear hKo Ko
  try simp only [Act.put, nm1, nm2, nm3, i64_w]
  refine wpList_plain rfl (fun Ko hKo => ?_)
  go_simp
  refine hKo _ _ ?_
  clear hKo Ko
  try simp only [Act.put, nm1, nm2, nm3, i64_w]
  refine step_call (wanted_none rfl) (by first | (go_simp; done) | (go_simp; rfl)) (spec_l01In.calls K a1_0 0 (wrap64 (a0 - 1)) false w3  A7.out) ?_
  rintro e w8 ⟨rfl, hu⟩
  have hu9 := Aside0.mk hu
  clear hu
  refine ⟨_, rfl, ?_⟩
  simp only [Act.put, nm1, nm2, nm3, i64_w]
  refine wpList_plain rfl (fun Ko hKo => ?_)
  go_simp
  refine hKo _ _ ?_
  clear hKo Ko
  try simp only [Act.put, nm1, nm2, nm3, i64_w]
  refine step_no rfl ?_
  simp only [Act.put, nm1, nm2, nm3, i64_w]
  refine step_no rfl ?_
  simp only [Act.put, nm1, nm2, nm3, i64_w]
  refine step_no rfl ?_
  simp only [Act.put, nm1, nm2, nm3, i64_w]
  refine step_no rfl ?_
  simp only [Act.put, nm1, nm2, nm3, i64_w]
  refine step_no rfl ?_
  simp only [Act.put, nm1, nm2, nm3, i64_w]
  refine wpList_plain rfl (fun Ko hKo => ?_)
  go_simp
  refine hKo _ _ ?_
  clear hKo Ko
  try simp only [Act.put, nm1, nm2, nm3, i64_w]
  refine wpList_plain rfl (fun Ko hKo => ?_)
  go_simp
  refine hKo _ _ ?_
  clear hKo Ko
  try simp only [Act.put, nm1, nm2, nm3, i64_w]
  refine wpList_nil ?_
  (try simp only [Exit.then, Exit.inBlock, ↓reduceIte, Nat.reduceEqDiff])
  refine hK5 _ _ ?_
  refine wp_ret ?_
  (try simp only [Exit.then, Exit.inBlock, ↓reduceIte, Nat.reduceEqDiff])
  refine hQf _ _ _ ?_
  exact bodyPost_ret (v := .bool false) (by first | rfl | (simp [results, Tryd.results15, go_sem]; done) | (simp [results, Tryd.results15, go_sem]; rfl)) rfl ⟨rfl, (hu4.out.trans hu9.out)⟩

set_option maxHeartbeats 4000000 in
set_option maxRecDepth 100000 in
theorem spec_l01Code.calls (K : Nat) (a0 : Int) (a1_A : Option Addr) (a1_c : Nat) (a1 : List (Int × Int)) (r0 : Int) (w : World) (ha1 : Rd e2 w a1_A a1) (h : spec_l01Code.f K a0 a1 = some (r0)) :
    Calls Tryd.prog 8 #[.int .i64 a0, .slice a1_A a1.length a1_c] w fun e w' => e = .returned (.int .i64 r0) ∧ Up w w' := by
 have H : (((spec_l01Field.f K a0).bind fun t4 => (if t4 = true then (spec_l01Code.l0 K a0 a1 K 0) else some 1)) : Option (Int)) = some (r0) := h
 clear h
 replace H := Option.bind_eq_some_iff.mp H
 obtain ⟨t4, A5, H⟩ := H
 replace A5 := Aside0.mk A5
 try dsimp only at H
 by_cases c8 : (t4) = true
 ·
  rw [if_pos c8] at H
  subst c8
  go_enter Tryd.func8, Tryd.ntmps8
  refine wp_hide (fun Qf hQf => ?_)
  refine wp_seq_k (fun K1 hK1 => ?_)
  refine wp_region_lit ?_
  refine wpList_plain rfl (fun Ko hKo => ?_)
  go_simp
  refine hKo _ _ ?_
  clear hKo Ko
  try simp only [Act.put, nm1, nm2, nm3, i64_w]
  refine wpList_nil ?_
  (try simp only [Exit.then, Exit.inBlock, ↓reduceIte, Nat.reduceEqDiff])
  refine hK1 _ _ ?_
  refine wp_seq_k (fun K2 hK2 => ?_)
  refine wp_seq_k (fun K3 hK3 => ?_)
  refine wp_region_lit ?_
  refine wpList_plain rfl (fun Ko hKo => ?_)
  go_simp
  refine hKo _ _ ?_
  clear hKo Ko
  try simp only [Act.put, nm1, nm2, nm3, i64_w]
  refine step_call (wanted_none rfl) (by first | (go_simp; done) | (go_simp; rfl)) (spec_l01Field.calls K a0 true w  A5.out) ?_
  rintro e w6 ⟨rfl, hu⟩
  have hu7 := Aside0.mk hu
  clear hu
  refine ⟨_, rfl, ?_⟩
  simp only [Act.put, nm1, nm2, nm3, i64_w]
  refine wpList_plain rfl (fun Ko hKo => ?_)
  go_simp
  refine hKo _ _ ?_
  clear hKo Ko
  try simp only [Act.put, nm1, nm2, nm3, i64_w]
  refine wpList_nil ?_
  (try simp only [Exit.then, Exit.inBlock, ↓reduceIte, Nat.reduceEqDiff])
  refine hK3 _ _ ?_
  refine wp_cond_false rfl ?_
  refine wp_skip ?_
  (try simp only [Exit.then, Exit.inBlock, ↓reduceIte, Nat.reduceEqDiff])
  refine hK2 _ _ ?_
  refine wp_seq_k (fun K9 hK9 => ?_)
  refine wp_seq_k (fun K10 hK10 => ?_)
  refine wp_region_lit ?_
  refine wpList_plain rfl (fun Ko hKo => ?_)
  go_simp
  refine hKo _ _ ?_
  clear hKo Ko
  try simp only [Act.put, nm1, nm2, nm3, i64_w]
  refine wpList_nil ?_
  (try simp only [Exit.then, Exit.inBlock, ↓reduceIte, Nat.reduceEqDiff])
  refine hK10 _ _ ?_
  refine wp_block ?_
  have HL15 := Aside0.mk H
  clear H
  go_loopg [5] K (fun kq v5 w' => ∃ (x11 : Int), v5 = .int .i64 x11 ∧ Aside0 (spec_l01Code.l0 K a0 a1 kq x11 = some (r0)) ∧ Aside0 (kq ≤ K) ∧ Aside0 (Up w6 w') ∧ Aside0 (w6.heap.size ≤ w'.heap.size))
  case atStart => exact ⟨0, (by first | rfl | simp), HL15, ⟨Nat.le_refl _⟩, ⟨(Up.refl _)⟩, ⟨Nat.le_refl _⟩⟩
  case round =>
   rename_i J19 K20 hJ19 hK20
   obtain ⟨x11, rfl, HL18, hk17, hu13, hz14⟩ := hrel
   obtain ⟨w12, rfl⟩ : ∃ wo : World, wo = wr := ⟨_, rfl⟩
   obtain ⟨k16, rfl⟩ | rfl : (∃ k, gk = k + 1) ∨ gk = 0 := by rcases gk with _ | k; exact .inr rfl; exact .inl ⟨k, rfl⟩
   case inr => exact absurd HL18.out (by simp [spec_l01Code.l0])
   have H := HL18.out
   clear HL18
   rw [spec_l01Code.l0] at H
   by_cases c23 : (decide (x11 < (a1.length : Int))) = true
   ·
    rw [if_pos c23] at H
    replace H := Option.bind_eq_some_iff.mp H
    obtain ⟨⟨t26, t27⟩, A28, H⟩ := H
    replace A28 := Aside0.mk A28
    try dsimp only at H
    replace H := Option.bind_eq_some_iff.mp H
    obtain ⟨t32, A33, H⟩ := H
    replace A33 := Aside0.mk A33
    try dsimp only at H
    by_cases c36 : (t32) = true
    ·
     rw [if_pos c36] at H
     subst c36
     have HL37 := Aside0.mk H
     clear H
     refine wp_seq_k (fun K21 hK21 => ?_)
     refine wp_seq_k (fun K22 hK22 => ?_)
     refine wp_region_lit ?_
     refine wpList_plain rfl (fun Ko hKo => ?_)
     go_simp
     refine hKo _ _ ?_
     clear hKo Ko
     try simp only [Act.put, nm1, nm2, nm3, i64_w]
     refine wpList_plain rfl (fun Ko hKo => ?_)
     go_simp
     refine hKo _ _ ?_
     clear hKo Ko
     try simp only [Act.put, nm1, nm2, nm3, i64_w]
     refine wpList_plain rfl (fun Ko hKo => ?_)
     go_simp
     refine hKo _ _ ?_
     clear hKo Ko
     try simp only [Act.put, nm1, nm2, nm3, i64_w]
     refine wpList_plain rfl (fun Ko hKo => ?_)
     go_simp
     refine hKo _ _ ?_
     clear hKo Ko
     try simp only [Act.put, nm1, nm2, nm3, i64_w]
     refine wpList_nil ?_
     (try simp only [Exit.then, Exit.inBlock, ↓reduceIte, Nat.reduceEqDiff])
     refine hK22 _ _ ?_
     refine wp_cond_true rfl ?_
     refine wp_skip ?_
     (try simp only [Exit.then, Exit.inBlock, ↓reduceIte, Nat.reduceEqDiff])
     refine hK21 _ _ ?_
     refine wp_seq_k (fun K24 hK24 => ?_)
     refine wp_block ?_
     refine wp_seq_k (fun K25 hK25 => ?_)
     refine wp_region_lit ?_
     refine wpList_plain rfl (fun Ko hKo => ?_)
     go_simp
     refine hKo _ _ ?_
     clear hKo Ko
     try simp only [Act.put, nm1, nm2, nm3, i64_w]
     refine wpList_plain rfl (fun Ko hKo => ?_)
     go_simp
     refine hKo _ _ ?_
     clear hKo Ko
     try simp only [Act.put, nm1, nm2, nm3, i64_w]
     refine wpList_plain rfl (fun Ko hKo => ?_)
     go_simp
     refine hKo _ _ ?_
     clear hKo Ko
     try simp only [Act.put, nm1, nm2, nm3, i64_w]
     refine step_index e2 (T := 24) (wanted_none rfl) rfl (by kernel_rfl) (by kernel_rfl) rfl rfl rfl (ha1.up (hu7.out.trans hu13.out)) A28.out ?_
     intro ad29 hat he
     have he30 := Aside0.mk he
     have hat31 := Aside0.mk hat
     clear he hat
     simp only [Act.put, nm1, nm2, nm3, i64_w]
     have cl0 := he30.out 0 _ rfl
     rw [addr_add0] at cl0
     have cl1 : World.cell? _ ⟨ad29.block, ad29.off + 1, none⟩ = some _ := he30.out 1 _ rfl
     refine wpList_plain rfl (fun Ko hKo => ?_)
     go_simp
     refine hKo _ _ ?_
     clear hKo Ko
     clear cl0 cl1
     try simp only [Act.put, nm1, nm2, nm3, i64_w]
     refine step_call (wanted_none rfl) (by first | (go_simp; done) | (go_simp; rfl)) (spec_l01Point.calls K a0 t26 t27 true w12  A33.out) ?_
     rintro e w34 ⟨rfl, hu⟩
     have hu35 := Aside0.mk hu
     clear hu
     refine ⟨_, rfl, ?_⟩
     simp only [Act.put, nm1, nm2, nm3, i64_w]
     refine wpList_plain rfl (fun Ko hKo => ?_)
     go_simp
     refine hKo _ _ ?_
     clear hKo Ko
     try simp only [Act.put, nm1, nm2, nm3, i64_w]
     refine wpList_nil ?_
     (try simp only [Exit.then, Exit.inBlock, ↓reduceIte, Nat.reduceEqDiff])
     refine hK25 _ _ ?_
     refine wp_cond_false rfl ?_
     refine wp_skip ?_
     (try simp only [Exit.then, Exit.inBlock, ↓reduceIte, Nat.reduceEqDiff])
     refine hK24 _ _ ?_
     refine wp_region_lit ?_
     refine wpList_plain rfl (fun Ko hKo => ?_)
     go_simp
     refine hKo _ _ ?_
     clear hKo Ko
     try simp only [Act.put, nm1, nm2, nm3, i64_w]
     refine wpList_plain rfl (fun Ko hKo => ?_)
     go_simp
     refine hKo _ _ ?_
     clear hKo Ko
     try simp only [Act.put, nm1, nm2, nm3, i64_w]
     refine wpList_plain rfl (fun Ko hKo => ?_)
     go_simp
     refine hKo _ _ ?_
     clear hKo Ko
     try simp only [Act.put, nm1, nm2, nm3, i64_w]
     refine wpList_nil ?_
     (try simp only [Exit.then, Exit.inBlock, ↓reduceIte, Nat.reduceEqDiff])
     refine hK20 _ _ ?_
     go_roundg k16
     case measure => exact Nat.lt_succ_self _
     case rel => exact ⟨wrap64 (x11 + 1), (by first | rfl | simp), HL37, ⟨by have := hk17.out; omega⟩, ⟨(hu13.out.trans hu35.out)⟩, ⟨(Nat.le_trans ((Nat.le_trans (Nat.le_refl _) hz14.out)) hu35.out.size)⟩⟩
    ·
     rw [if_neg c36] at H
     replace c36 := Bool.eq_false_iff.mpr c36
     subst c36
     obtain rfl := Option.some.inj H
     refine wp_seq_k (fun K21 hK21 => ?_)
     refine wp_seq_k (fun K22 hK22 => ?_)
     refine wp_region_lit ?_
     refine wpList_plain rfl (fun Ko hKo => ?_)
     go_simp
     refine hKo _ _ ?_
     clear hKo Ko
     try simp only [Act.put, nm1, nm2, nm3, i64_w]
     refine wpList_plain rfl (fun Ko hKo => ?_)
     go_simp
     refine hKo _ _ ?_
     clear hKo Ko
     try simp only [Act.put, nm1, nm2, nm3, i64_w]
     refine wpList_plain rfl (fun Ko hKo => ?_)
     go_simp
     refine hKo _ _ ?_
     clear hKo Ko
     try simp only [Act.put, nm1, nm2, nm3, i64_w]
     refine wpList_plain rfl (fun Ko hKo => ?_)
     go_simp
     refine hKo _ _ ?_
     clear hKo Ko
     try simp only [Act.put, nm1, nm2, nm3, i64_w]
     refine wpList_nil ?_
     (try simp only [Exit.then, Exit.inBlock, ↓reduceIte, Nat.reduceEqDiff])
     refine hK22 _ _ ?_
     refine wp_cond_true rfl ?_
     refine wp_skip ?_
     (try simp only [Exit.then, Exit.inBlock, ↓reduceIte, Nat.reduceEqDiff])
     refine hK21 _ _ ?_
     refine wp_seq_k (fun K24 hK24 => ?_)
     refine wp_block ?_
     refine wp_seq_k (fun K25 hK25 => ?_)
     refine wp_region_lit ?_
     refine wpList_plain rfl (fun Ko hKo => ?_)
     go_simp
     refine hKo _ _ ?_
     clear hKo Ko
     try simp only [Act.put, nm1, nm2, nm3, i64_w]
     refine wpList_plain rfl (fun Ko hKo => ?_)
     go_simp
     refine hKo _ _ ?_
     clear hKo Ko
     try simp only [Act.put, nm1, nm2, nm3, i64_w]
     refine wpList_plain rfl (fun Ko hKo => ?_)
     go_simp
     refine hKo _ _ ?_
     clear hKo Ko
     try simp only [Act.put, nm1, nm2, nm3, i64_w]
     refine step_index e2 (T := 24) (wanted_none rfl) rfl (by kernel_rfl) (by kernel_rfl) rfl rfl rfl (ha1.up (hu7.out.trans hu13.out)) A28.out ?_
     intro ad29 hat he
     have he30 := Aside0.mk he
     have hat31 := Aside0.mk hat
     clear he hat
     simp only [Act.put, nm1, nm2, nm3, i64_w]
     have cl0 := he30.out 0 _ rfl
     rw [addr_add0] at cl0
     have cl1 : World.cell? _ ⟨ad29.block, ad29.off + 1, none⟩ = some _ := he30.out 1 _ rfl
     refine wpList_plain rfl (fun Ko hKo => ?_)
     go_simp
     refine hKo _ _ ?_
     clear hKo Ko
     clear cl0 cl1
     try simp only [Act.put, nm1, nm2, nm3, i64_w]
     refine step_call (wanted_none rfl) (by first | (go_simp; done) | (go_simp; rfl)) (spec_l01Point.calls K a0 t26 t27 false w12  A33.out) ?_
     rintro e w34 ⟨rfl, hu⟩
     have hu35 := Aside0.mk hu
     clear hu
     refine ⟨_, rfl, ?_⟩
     simp only [Act.put, nm1, nm2, nm3, i64_w]
     refine wpList_plain rfl (fun Ko hKo => ?_)
     go_simp
     refine hKo _ _ ?_
     clear hKo Ko
     try simp only [Act.put, nm1, nm2, nm3, i64_w]
     refine wpList_nil ?_
     (try simp only [Exit.then, Exit.inBlock, ↓reduceIte, Nat.reduceEqDiff])
     refine hK25 _ _ ?_
     refine wp_cond_true rfl ?_
     refine wp_seq_k (fun K38 hK38 => ?_)
     refine wp_region_lit ?_
     refine wpList_plain rfl (fun Ko hKo => ?_)
     go_simp
     refine hKo _ _ ?_
     clear hKo Ko
     try simp only [Act.put, nm1, nm2, nm3, i64_w]
     refine wpList_nil ?_
     (try simp only [Exit.then, Exit.inBlock, ↓reduceIte, Nat.reduceEqDiff])
     refine hK38 _ _ ?_
     refine wp_ret ?_
     (try simp only [Exit.then, Exit.inBlock, ↓reduceIte, Nat.reduceEqDiff])
     refine hQf _ _ _ ?_
     exact bodyPost_ret (v := .int .i64 2) (by first | rfl | (simp [results, Tryd.results8, go_sem]; done) | (simp [results, Tryd.results8, go_sem]; rfl)) rfl ⟨rfl, ((hu7.out.trans hu13.out).trans hu35.out)⟩
   ·
    rw [if_neg c23] at H
    replace c23 := Bool.eq_false_iff.mpr c23
    obtain rfl := Option.some.inj H
    refine wp_seq_k (fun K21 hK21 => ?_)
    refine wp_seq_k (fun K22 hK22 => ?_)
    refine wp_region_lit ?_
    refine wpList_plain rfl (fun Ko hKo => ?_)
    go_simp
    refine hKo _ _ ?_
    clear hKo Ko
    try simp only [Act.put, nm1, nm2, nm3, i64_w]
    refine wpList_plain rfl (fun Ko hKo => ?_)
    go_simp
    refine hKo _ _ ?_
    clear hKo Ko
    try simp only [Act.put, nm1, nm2, nm3, i64_w]
    refine wpList_plain rfl (fun Ko hKo => ?_)
    go_simp
    refine hKo _ _ ?_
    clear hKo Ko
    try simp only [Act.put, nm1, nm2, nm3, i64_w]
    refine wpList_plain rfl (fun Ko hKo => ?_)
    go_simp
    refine hKo _ _ ?_
    clear hKo Ko
    try simp only [Act.put, nm1, nm2, nm3, i64_w]
    refine wpList_nil ?_
    (try simp only [Exit.then, Exit.inBlock, ↓reduceIte, Nat.reduceEqDiff])
    refine hK22 _ _ ?_
    refine wp_cond_false rfl ?_
    refine wp_exit ?_
    (try simp only [Exit.then, Exit.inBlock, ↓reduceIte, Nat.reduceEqDiff])
    refine hK9 _ _ ?_
    refine wp_seq_k (fun K39 hK39 => ?_)
    refine wp_region_lit ?_
    refine wpList_plain rfl (fun Ko hKo => ?_)
    go_simp
    refine hKo _ _ ?_
    clear hKo Ko
    try simp only [Act.put, nm1, nm2, nm3, i64_w]
    refine wpList_nil ?_
    (try simp only [Exit.then, Exit.inBlock, ↓reduceIte, Nat.reduceEqDiff])
    refine hK39 _ _ ?_
    refine wp_ret ?_
    (try simp only [Exit.then, Exit.inBlock, ↓reduceIte, Nat.reduceEqDiff])
    refine hQf _ _ _ ?_
    exact bodyPost_ret (v := .int .i64 0) (by first | rfl | (simp [results, Tryd.results8, go_sem]; done) | (simp [results, Tryd.results8, go_sem]; rfl)) rfl ⟨rfl, (hu7.out.trans hu13.out)⟩
 ·
  rw [if_neg c8] at H
  replace c8 := Bool.eq_false_iff.mpr c8
  subst c8
  obtain rfl := Option.some.inj H
  go_enter Tryd.func8, Tryd.ntmps8
  refine wp_hide (fun Qf hQf => ?_)
  refine wp_seq_k (fun K1 hK1 => ?_)
  refine wp_region_lit ?_
  refine wpList_plain rfl (fun Ko hKo => ?_)
  go_simp
  refine hKo _ _ ?_
  clear hKo Ko
  try simp only [Act.put, nm1, nm2, nm3, i64_w]
  refine wpList_nil ?_
  (try simp only [Exit.then, Exit.inBlock, ↓reduceIte, Nat.reduceEqDiff])
  refine hK1 _ _ ?_
  refine wp_seq_k (fun K2 hK2 => ?_)
  refine wp_seq_k (fun K3 hK3 => ?_)
  refine wp_region_lit ?_
  refine wpList_plain rfl (fun Ko hKo => ?_)
  go_simp
  refine hKo _ _ ?_
  clear hKo Ko
  try simp only [Act.put, nm1, nm2, nm3, i64_w]
  refine step_call (wanted_none rfl) (by first | (go_simp; done) | (go_simp; rfl)) (spec_l01Field.calls K a0 false w  A5.out) ?_
  rintro e w6 ⟨rfl, hu⟩
  have hu7 := Aside0.mk hu
  clear hu
  refine ⟨_, rfl, ?_⟩
  simp only [Act.put, nm1, nm2, nm3, i64_w]
  refine wpList_plain rfl (fun Ko hKo => ?_)
  go_simp
  refine hKo _ _ ?_
  clear hKo Ko
  try simp only [Act.put, nm1, nm2, nm3, i64_w]
  refine wpList_nil ?_
  (try simp only [Exit.then, Exit.inBlock, ↓reduceIte, Nat.reduceEqDiff])
  refine hK3 _ _ ?_
  refine wp_cond_true rfl ?_
  refine wp_seq_k (fun K40 hK40 => ?_)
  refine wp_region_lit ?_
  refine wpList_plain rfl (fun Ko hKo => ?_)
  go_simp
  refine hKo _ _ ?_
  clear hKo Ko
  try simp only [Act.put, nm1, nm2, nm3, i64_w]
  refine wpList_nil ?_
  (try simp only [Exit.then, Exit.inBlock, ↓reduceIte, Nat.reduceEqDiff])
  refine hK40 _ _ ?_
  refine wp_ret ?_
  (try simp only [Exit.then, Exit.inBlock, ↓reduceIte, Nat.reduceEqDiff])
  refine hQf _ _ _ ?_
  exact bodyPost_ret (v := .int .i64 1) (by first | rfl | (simp [results, Tryd.results8, go_sem]; done) | (simp [results, Tryd.results8, go_sem]; rfl)) rfl ⟨rfl, hu7.out⟩

set_option maxHeartbeats 4000000 in
set_option maxRecDepth 100000 in
theorem spec_ShiftBy.calls (K : Nat) (a0 : Int) (a1_0 : Int) (a1_1 : Int) (r0 : Int) (r1 : Int) (r2 : Int) (r3 : Int) (r4 : Int) (r5 : Int) (r6 : Int) (w : World)  (h : spec_ShiftBy.f K a0 a1_0 a1_1 = some (r0, r1, r2, r3, r4, r5, r6)) :
    Calls Tryd.prog 4 #[.int .i64 a0, .agg #[.int .i64 a1_0, .int .i64 a1_1]] w fun e w' => e = .returned (.tuple #[.agg #[.int .i64 r0, .int .i64 r1, .int .i64 r2, .int .i64 r3, .int .i64 r4, .int .i64 r5], .int .i64 r6]) ∧ Up w w' := by
 have H : (((spec_l01Code.f K a0 ([(a1_0, a1_1)])).bind fun t13 => (if (t13 == 0) = true then some (1, 0, 0, 1, a1_0, a1_1, 0) else some (0, 0, 0, 0, 0, 0, t13))) : Option (Int × Int × Int × Int × Int × Int × Int)) = some (r0, r1, r2, r3, r4, r5, r6) := h
 clear h
 replace H := Option.bind_eq_some_iff.mp H
 obtain ⟨t13, A14, H⟩ := H
 replace A14 := Aside0.mk A14
 try dsimp only at H
 by_cases c18 : (t13 == 0) = true
 ·
  rw [if_pos c18] at H
  have c18n : (t13 != 0) = false := by rw [bne, c18]; rfl
  simp only [Option.some.injEq, Prod.mk.injEq] at H
  obtain ⟨rfl, rfl, rfl, rfl, rfl, rfl, rfl⟩ := H
  go_enter Tryd.func4, Tryd.ntmps4
  refine wp_hide (fun Qf hQf => ?_)
  refine wp_seq_k (fun K1 hK1 => ?_)
  refine wp_region_lit ?_
  refine step_new (cs := [.int .i64 a1_0, .int .i64 a1_1]) (T := 24) (f := fun b => .pointer (some ⟨b, 0, none⟩)) rfl (by first | (go_simp; done) | (go_simp; rfl)) ?_
  intro b2 w3 hu lb hb2
  simp only [Act.put, nm1, nm2, nm3, i64_w]
  have lbb2 := Aside0.mk lb
  have ltb2 := Aside0.mk hb2.lt
  clear lb
  have hu4 := Aside0.mk hu
  clear hu
  refine step_new (cs := [.int .i64 0, .int .i64 0, .int .i64 0, .int .i64 0, .int .i64 0, .int .i64 0]) (T := 26) (f := fun b => .pointer (some ⟨b, 0, none⟩)) rfl (by first | (go_simp; done) | (go_simp; rfl)) ?_
  intro b5 w6 hu lb hb5
  simp only [Act.put, nm1, nm2, nm3, i64_w]
  have lbb5 := Aside0.mk lb
  have ltb5 := Aside0.mk hb5.lt
  clear lb
  have hu7 := Aside0.mk hu
  clear hu
  refine wpList_plain rfl (fun Ko hKo => ?_)
  go_simp
  refine hKo _ _ ?_
  clear hKo Ko
  try simp only [Act.put, nm1, nm2, nm3, i64_w]
  refine wpList_nil ?_
  (try simp only [Exit.then, Exit.inBlock, ↓reduceIte, Nat.reduceEqDiff])
  refine hK1 _ _ ?_
  refine wp_seq_k (fun K8 hK8 => ?_)
  refine wp_seq_k (fun K9 hK9 => ?_)
  refine wp_region_lit ?_
  refine wpList_plain rfl (fun Ko hKo => ?_)
  go_simp
  refine hKo _ _ ?_
  clear hKo Ko
  try simp only [Act.put, nm1, nm2, nm3, i64_w]
  have cl0 := (hb2.up hu7.out).cell (o := 0) rfl
  have cl1 := (hb2.up hu7.out).cell (o := 1) rfl
  refine wpList_plain rfl (fun Ko hKo => ?_)
  go_simp
  refine hKo _ _ ?_
  clear hKo Ko
  clear cl0 cl1
  try simp only [Act.put, nm1, nm2, nm3, i64_w]
  refine step_new (cs := [.int .i64 a1_0, .int .i64 a1_1]) (T := 24) (f := fun b => .slice (some ⟨b, 0, none⟩) 1 1) rfl (by first | (go_simp; done) | (go_simp; rfl)) ?_
  intro b10 w11 hu lb hb10
  simp only [Act.put, nm1, nm2, nm3, i64_w]
  have lbb10 := Aside0.mk lb
  have ltb10 := Aside0.mk hb10.lt
  clear lb
  have hu12 := Aside0.mk hu
  clear hu
  refine step_call (wanted_none rfl) (by first | (go_simp; done) | (go_simp; rfl)) (spec_l01Code.calls K a0 (some ⟨b10, 0, none⟩) 1 ([(a1_0, a1_1)]) t13 w11 (Rd.of_blk (E := e2) (xs := [(a1_0, a1_1)]) (o := 0) hb10 (by simp) (fun j u hu => by rcases j with _ | _ | j <;> simp_all [Enc.flat, e2])) A14.out) ?_
  rintro e w15 ⟨rfl, hu⟩
  have hu16 := Aside0.mk hu
  clear hu
  refine ⟨_, rfl, ?_⟩
  simp only [Act.put, nm1, nm2, nm3, i64_w]
  refine wpList_plain rfl (fun Ko hKo => ?_)
  go_simp
  refine hKo _ _ ?_
  clear hKo Ko
  try simp only [Act.put, nm1, nm2, nm3, i64_w]
  refine wpList_nil ?_
  (try simp only [Exit.then, Exit.inBlock, ↓reduceIte, Nat.reduceEqDiff])
  refine hK9 _ _ ?_
  refine wp_seq_k (fun K17 hK17 => ?_)
  refine wp_region_lit ?_
  refine wpList_plain rfl (fun Ko hKo => ?_)
  go_simp
  refine hKo _ _ ?_
  clear hKo Ko
  try simp only [Act.put, nm1, nm2, nm3, i64_w]
  refine wpList_plain rfl (fun Ko hKo => ?_)
  go_simp
  refine hKo _ _ ?_
  clear hKo Ko
  try simp only [Act.put, nm1, nm2, nm3, i64_w]
  refine wpList_nil ?_
  (try simp only [Exit.then, Exit.inBlock, ↓reduceIte, Nat.reduceEqDiff])
  refine hK17 _ _ ?_
  refine wp_cond_false rfl ?_
  refine wp_skip ?_
  (try simp only [Exit.then, Exit.inBlock, ↓reduceIte, Nat.reduceEqDiff])
  refine hK8 _ _ ?_
  refine wp_seq_k (fun K19 hK19 => ?_)
  refine wp_region_lit ?_
  refine wpList_plain rfl (fun Ko hKo => ?_)
  go_simp
  refine hKo _ _ ?_
  clear hKo Ko
  try simp only [Act.put, nm1, nm2, nm3, i64_w]
  have cl0 := (hb2.up ((hu7.out.trans hu12.out).trans hu16.out)).cell (o := 0) rfl
  have cl1 := (hb2.up ((hu7.out.trans hu12.out).trans hu16.out)).cell (o := 1) rfl
  refine wpList_plain rfl (fun Ko hKo => ?_)
  go_simp
  refine hKo _ _ ?_
  clear hKo Ko
  clear cl0 cl1
  try simp only [Act.put, nm1, nm2, nm3, i64_w]
  refine wpList_plain rfl (fun Ko hKo => ?_)
  go_simp
  refine hKo _ _ ?_
  clear hKo Ko
  try simp only [Act.put, nm1, nm2, nm3, i64_w]
  have hB0 := (hb5.up (hu12.out.trans hu16.out))
  have cl0 := hB0.cell (o := 0) rfl
  have fr0 := hB0.free 0
  have cl1 := hB0.cell (o := 1) rfl
  have fr1 := hB0.free 1
  have cl2 := hB0.cell (o := 2) rfl
  have fr2 := hB0.free 2
  have cl3 := hB0.cell (o := 3) rfl
  have fr3 := hB0.free 3
  have cl4 := hB0.cell (o := 4) rfl
  have fr4 := hB0.free 4
  have cl5 := hB0.cell (o := 5) rfl
  have fr5 := hB0.free 5
  refine step_store (b := b5) (cs' := [.int .i64 1, .int .i64 0, .int .i64 0, .int .i64 1, .int .i64 a1_0, .int .i64 a1_1]) (T := 26) (W' := ((((((w15.setCell ⟨b5, 0, none⟩ (.int .i64 1)).setCell ⟨b5, 1, none⟩ (.int .i64 0)).setCell ⟨b5, 2, none⟩ (.int .i64 0)).setCell ⟨b5, 3, none⟩ (.int .i64 1)).setCell ⟨b5, 4, none⟩ (.int .i64 a1_0)).setCell ⟨b5, 5, none⟩ (.int .i64 a1_1))) rfl rfl (by first | (go_simp; done) | (go_simp; rfl)) (((((((Sto.refl _ _).setCell 0 _).setCell 1 _).setCell 2 _).setCell 3 _).setCell 4 _).setCell 5 _) (((((((hB0).setCell 0 _).setCell 1 _).setCell 2 _).setCell 3 _).setCell 4 _).setCell 5 _) ?_
  clear hB0 cl0 fr0 cl1 fr1 cl2 fr2 cl3 fr3 cl4 fr4 cl5 fr5
  intro w20 hs hb22
  have hs21 := Aside0.mk hs
  clear hs
  have h23 := (hb10.up hu16.out).sto hs21.out (Ne.symm (Nat.ne_of_lt (Nat.lt_of_lt_of_le ltb5.out lbb10.out)))
  refine wpList_plain rfl (fun Ko hKo => ?_)
  go_simp
  refine hKo _ _ ?_
  clear hKo Ko
  try simp only [Act.put, nm1, nm2, nm3, i64_w]
  refine wpList_nil ?_
  (try simp only [Exit.then, Exit.inBlock, ↓reduceIte, Nat.reduceEqDiff])
  refine hK19 _ _ ?_
  refine wp_ret ?_
  (try simp only [Exit.then, Exit.inBlock, ↓reduceIte, Nat.reduceEqDiff])
  refine hQf _ _ _ ?_
  have cr0 := hb22.cell (o := 0) rfl
  have cr1 := hb22.cell (o := 1) rfl
  have cr2 := hb22.cell (o := 2) rfl
  have cr3 := hb22.cell (o := 3) rfl
  have cr4 := hb22.cell (o := 4) rfl
  have cr5 := hb22.cell (o := 5) rfl
  exact bodyPost_ret (v := .tuple #[.agg #[.int .i64 1, .int .i64 0, .int .i64 0, .int .i64 1, .int .i64 a1_0, .int .i64 a1_1], .int .i64 0]) (by first | rfl | (simp [results, Tryd.results4, go_sem, cr0, cr1, cr2, cr3, cr4, cr5]; done) | (simp [results, Tryd.results4, go_sem, cr0, cr1, cr2, cr3, cr4, cr5]; rfl)) rfl ⟨rfl, ((((hu4.out.trans hu7.out).trans hu12.out).trans hu16.out).sto (Nat.le_trans (hu4.out.size) lbb5.out) hs21.out)⟩
 ·
  rw [if_neg c18] at H
  replace c18 := Bool.eq_false_iff.mpr c18
  have c18n : (t13 != 0) = true := by rw [bne, c18]; rfl
  have c18p : ¬ t13 = 0 := fun e => by simp [e] at c18
  simp only [Option.some.injEq, Prod.mk.injEq] at H
  obtain ⟨rfl, rfl, rfl, rfl, rfl, rfl, rfl⟩ := H
  go_enter Tryd.func4, Tryd.ntmps4
  refine wp_hide (fun Qf hQf => ?_)
  refine wp_seq_k (fun K1 hK1 => ?_)
  refine wp_region_lit ?_
  refine step_new (cs := [.int .i64 a1_0, .int .i64 a1_1]) (T := 24) (f := fun b => .pointer (some ⟨b, 0, none⟩)) rfl (by first | (go_simp; done) | (go_simp; rfl)) ?_
  intro b2 w3 hu lb hb2
  simp only [Act.put, nm1, nm2, nm3, i64_w]
  have lbb2 := Aside0.mk lb
  have ltb2 := Aside0.mk hb2.lt
  clear lb
  have hu4 := Aside0.mk hu
  clear hu
  refine step_new (cs := [.int .i64 0, .int .i64 0, .int .i64 0, .int .i64 0, .int .i64 0, .int .i64 0]) (T := 26) (f := fun b => .pointer (some ⟨b, 0, none⟩)) rfl (by first | (go_simp; done) | (go_simp; rfl)) ?_
  intro b5 w6 hu lb hb5
  simp only [Act.put, nm1, nm2, nm3, i64_w]
  have lbb5 := Aside0.mk lb
  have ltb5 := Aside0.mk hb5.lt
  clear lb
  have hu7 := Aside0.mk hu
  clear hu
  refine wpList_plain rfl (fun Ko hKo => ?_)
  go_simp
  refine hKo _ _ ?_
  clear hKo Ko
  try simp only [Act.put, nm1, nm2, nm3, i64_w]
  refine wpList_nil ?_
  (try simp only [Exit.then, Exit.inBlock, ↓reduceIte, Nat.reduceEqDiff])
  refine hK1 _ _ ?_
  refine wp_seq_k (fun K8 hK8 => ?_)
  refine wp_seq_k (fun K9 hK9 => ?_)
  refine wp_region_lit ?_
  refine wpList_plain rfl (fun Ko hKo => ?_)
  go_simp
  refine hKo _ _ ?_
  clear hKo Ko
  try simp only [Act.put, nm1, nm2, nm3, i64_w]
  have cl0 := (hb2.up hu7.out).cell (o := 0) rfl
  have cl1 := (hb2.up hu7.out).cell (o := 1) rfl
  refine wpList_plain rfl (fun Ko hKo => ?_)
  go_simp
  refine hKo _ _ ?_
  clear hKo Ko
  clear cl0 cl1
  try simp only [Act.put, nm1, nm2, nm3, i64_w]
  refine step_new (cs := [.int .i64 a1_0, .int .i64 a1_1]) (T := 24) (f := fun b => .slice (some ⟨b, 0, none⟩) 1 1) rfl (by first | (go_simp; done) | (go_simp; rfl)) ?_
  intro b10 w11 hu lb hb10
  simp only [Act.put, nm1, nm2, nm3, i64_w]
  have lbb10 := Aside0.mk lb
  have ltb10 := Aside0.mk hb10.lt
  clear lb
  have hu12 := Aside0.mk hu
  clear hu
  refine step_call (wanted_none rfl) (by first | (go_simp; done) | (go_simp; rfl)) (spec_l01Code.calls K a0 (some ⟨b10, 0, none⟩) 1 ([(a1_0, a1_1)]) t13 w11 (Rd.of_blk (E := e2) (xs := [(a1_0, a1_1)]) (o := 0) hb10 (by simp) (fun j u hu => by rcases j with _ | _ | j <;> simp_all [Enc.flat, e2])) A14.out) ?_
  rintro e w15 ⟨rfl, hu⟩
  have hu16 := Aside0.mk hu
  clear hu
  refine ⟨_, rfl, ?_⟩
  simp only [Act.put, nm1, nm2, nm3, i64_w]
  refine wpList_plain rfl (fun Ko hKo => ?_)
  go_simp
  refine hKo _ _ ?_
  clear hKo Ko
  try simp only [Act.put, nm1, nm2, nm3, i64_w]
  refine wpList_nil ?_
  (try simp only [Exit.then, Exit.inBlock, ↓reduceIte, Nat.reduceEqDiff])
  refine hK9 _ _ ?_
  refine wp_seq_k (fun K17 hK17 => ?_)
  refine wp_region_lit ?_
  refine wpList_plain rfl (fun Ko hKo => ?_)
  go_simp
  refine hKo _ _ ?_
  clear hKo Ko
  try simp only [Act.put, nm1, nm2, nm3, i64_w]
  refine wpList_plain rfl (fun Ko hKo => ?_)
  go_simp
  refine hKo _ _ ?_
  clear hKo Ko
  try simp only [Act.put, nm1, nm2, nm3, i64_w]
  refine wpList_nil ?_
  (try simp only [Exit.then, Exit.inBlock, ↓reduceIte, Nat.reduceEqDiff])
  refine hK17 _ _ ?_
  refine wp_cond_true rfl ?_
  refine wp_seq_k (fun K24 hK24 => ?_)
  refine wp_region_lit ?_
  refine wpList_plain rfl (fun Ko hKo => ?_)
  go_simp
  refine hKo _ _ ?_
  clear hKo Ko
  try simp only [Act.put, nm1, nm2, nm3, i64_w]
  refine wpList_plain rfl (fun Ko hKo => ?_)
  go_simp
  refine hKo _ _ ?_
  clear hKo Ko
  try simp only [Act.put, nm1, nm2, nm3, i64_w]
  have hB0 := (hb5.up (hu12.out.trans hu16.out))
  have cl0 := hB0.cell (o := 0) rfl
  have fr0 := hB0.free 0
  have cl1 := hB0.cell (o := 1) rfl
  have fr1 := hB0.free 1
  have cl2 := hB0.cell (o := 2) rfl
  have fr2 := hB0.free 2
  have cl3 := hB0.cell (o := 3) rfl
  have fr3 := hB0.free 3
  have cl4 := hB0.cell (o := 4) rfl
  have fr4 := hB0.free 4
  have cl5 := hB0.cell (o := 5) rfl
  have fr5 := hB0.free 5
  refine step_store (b := b5) (cs' := [.int .i64 0, .int .i64 0, .int .i64 0, .int .i64 0, .int .i64 0, .int .i64 0]) (T := 26) (W' := ((((((w15.setCell ⟨b5, 0, none⟩ (.int .i64 0)).setCell ⟨b5, 1, none⟩ (.int .i64 0)).setCell ⟨b5, 2, none⟩ (.int .i64 0)).setCell ⟨b5, 3, none⟩ (.int .i64 0)).setCell ⟨b5, 4, none⟩ (.int .i64 0)).setCell ⟨b5, 5, none⟩ (.int .i64 0))) rfl rfl (by first | (go_simp; done) | (go_simp; rfl)) (((((((Sto.refl _ _).setCell 0 _).setCell 1 _).setCell 2 _).setCell 3 _).setCell 4 _).setCell 5 _) (((((((hB0).setCell 0 _).setCell 1 _).setCell 2 _).setCell 3 _).setCell 4 _).setCell 5 _) ?_
  clear hB0 cl0 fr0 cl1 fr1 cl2 fr2 cl3 fr3 cl4 fr4 cl5 fr5
  intro w25 hs hb27
  have hs26 := Aside0.mk hs
  clear hs
  have h28 := (hb10.up hu16.out).sto hs26.out (Ne.symm (Nat.ne_of_lt (Nat.lt_of_lt_of_le ltb5.out lbb10.out)))
  refine wpList_plain rfl (fun Ko hKo => ?_)
  go_simp
  refine hKo _ _ ?_
  clear hKo Ko
  try simp only [Act.put, nm1, nm2, nm3, i64_w]
  refine wpList_nil ?_
  (try simp only [Exit.then, Exit.inBlock, ↓reduceIte, Nat.reduceEqDiff])
  refine hK24 _ _ ?_
  refine wp_ret ?_
  (try simp only [Exit.then, Exit.inBlock, ↓reduceIte, Nat.reduceEqDiff])
  refine hQf _ _ _ ?_
  have cr0 := hb27.cell (o := 0) rfl
  have cr1 := hb27.cell (o := 1) rfl
  have cr2 := hb27.cell (o := 2) rfl
  have cr3 := hb27.cell (o := 3) rfl
  have cr4 := hb27.cell (o := 4) rfl
  have cr5 := hb27.cell (o := 5) rfl
  exact bodyPost_ret (v := .tuple #[.agg #[.int .i64 0, .int .i64 0, .int .i64 0, .int .i64 0, .int .i64 0, .int .i64 0], .int .i64 t13]) (by first | rfl | (simp [results, Tryd.results4, go_sem, cr0, cr1, cr2, cr3, cr4, cr5]; done) | (simp [results, Tryd.results4, go_sem, cr0, cr1, cr2, cr3, cr4, cr5]; rfl)) rfl ⟨rfl, ((((hu4.out.trans hu7.out).trans hu12.out).trans hu16.out).sto (Nat.le_trans (hu4.out.size) lbb5.out) hs26.out)⟩

set_option maxHeartbeats 4000000 in
set_option maxRecDepth 100000 in
theorem impl_IsField.calls (K : Nat) (a0 : Int) (r0 : Bool) (w : World)  (h : impl_IsField.f K a0 = some (r0)) :
    Calls Tryd.prog 16 #[.int .i64 a0] w fun e w' => e = .returned (.bool r0) ∧ Up w w' := by
 have H : ((if (a0 == 3) = true then some true else (if (a0 == 5) = true then some true else (if (a0 == 7) = true then some true else (if (a0 == 11) = true then some true else (if (a0 == 13) = true then some true else (if (a0 == 17) = true then some true else (if (a0 == 19) = true then some true else (if (a0 == 23) = true then some true else (if (a0 == 29) = true then some true else (if (a0 == 31) = true then some true else some false)))))))))) : Option (Bool)) = some (r0) := h
 clear h
 by_cases c6 : (a0 == 3) = true
 ·
  rw [if_pos c6] at H
  have c6n : (a0 != 3) = false := by rw [bne, c6]; rfl
  obtain rfl := Option.some.inj H
  go_enter Tryd.func16, Tryd.ntmps16
  refine wp_hide (fun Qf hQf => ?_)
  refine wp_seq_k (fun K1 hK1 => ?_)
  refine wp_region_lit ?_
  refine wpList_plain rfl (fun Ko hKo => ?_)
  go_simp
  refine hKo _ _ ?_
  clear hKo Ko
  try simp only [Act.put, nm1, nm2, nm3, i64_w]
  refine wpList_nil ?_
  (try simp only [Exit.then, Exit.inBlock, ↓reduceIte, Nat.reduceEqDiff])
  refine hK1 _ _ ?_
  refine wp_seq_k (fun K2 hK2 => ?_)
  refine wp_seq_k (fun K3 hK3 => ?_)
  refine wp_region_lit ?_
  refine wpList_plain rfl (fun Ko hKo => ?_)
  go_simp
  refine hKo _ _ ?_
  clear hKo Ko
  try simp only [Act.put, nm1, nm2, nm3, i64_w]
  refine wpList_nil ?_
  (try simp only [Exit.then, Exit.inBlock, ↓reduceIte, Nat.reduceEqDiff])
  refine hK3 _ _ ?_
  refine wp_block ?_
  refine wp_seq_k (fun K4 hK4 => ?_)
  refine wp_seq_k (fun K5 hK5 => ?_)
  refine wp_region_lit ?_
  refine wpList_plain rfl (fun Ko hKo => ?_)
  go_simp
  refine hKo _ _ ?_
  clear hKo Ko
  try simp only [Act.put, nm1, nm2, nm3, i64_w]
  refine wpList_plain rfl (fun Ko hKo => ?_)
  go_simp
  refine hKo _ _ ?_
  clear hKo Ko
  try simp only [Act.put, nm1, nm2, nm3, i64_w]
  refine wpList_nil ?_
  (try simp only [Exit.then, Exit.inBlock, ↓reduceIte, Nat.reduceEqDiff])
  refine hK5 _ _ ?_
  refine wp_cond_true rfl ?_
  refine wp_skip ?_
  (try simp only [Exit.then, Exit.inBlock, ↓reduceIte, Nat.reduceEqDiff])
  refine hK4 _ _ ?_
  refine wp_cond_true rfl ?_
  refine wp_seq_k (fun K7 hK7 => ?_)
  refine wp_region_lit ?_
  refine wpList_plain rfl (fun Ko hKo => ?_)
  go_simp
  refine hKo _ _ ?_
  clear hKo Ko
  try simp only [Act.put, nm1, nm2, nm3, i64_w]
  refine wpList_nil ?_
  (try simp only [Exit.then, Exit.inBlock, ↓reduceIte, Nat.reduceEqDiff])
  refine hK7 _ _ ?_
  refine wp_ret ?_
  (try simp only [Exit.then, Exit.inBlock, ↓reduceIte, Nat.reduceEqDiff])
  refine hQf _ _ _ ?_
  exact bodyPost_ret (v := .bool true) (by first | rfl | (simp [results, Tryd.results16, go_sem]; done) | (simp [results, Tryd.results16, go_sem]; rfl)) rfl ⟨rfl, (Up.refl _)⟩
 ·
  rw [if_neg c6] at H
  replace c6 := Bool.eq_false_iff.mpr c6
  have c6n : (a0 != 3) = true := by rw [bne, c6]; rfl
  have c6p : ¬ a0 = 3 := fun e => by simp [e] at c6
  by_cases c9 : (a0 == 5) = true
  ·
   rw [if_pos c9] at H
   have c9n : (a0 != 5) = false := by rw [bne, c9]; rfl
   obtain rfl := Option.some.inj H
   go_enter Tryd.func16, Tryd.ntmps16
   refine wp_hide (fun Qf hQf => ?_)
   refine wp_seq_k (fun K1 hK1 => ?_)
   refine wp_region_lit ?_
   refine wpList_plain rfl (fun Ko hKo => ?_)
   go_simp
   refine hKo _ _ ?_
   clear hKo Ko
   try simp only [Act.put, nm1, nm2, nm3, i64_w]
   refine wpList_nil ?_
   (try simp only [Exit.then, Exit.inBlock, ↓reduceIte, Nat.reduceEqDiff])
   refine hK1 _ _ ?_
   refine wp_seq_k (fun K2 hK2 => ?_)
   refine wp_seq_k (fun K3 hK3 => ?_)
   refine wp_region_lit ?_
   refine wpList_plain rfl (fun Ko hKo => ?_)
   go_simp
   refine hKo _ _ ?_
   clear hKo Ko
   try simp only [Act.put, nm1, nm2, nm3, i64_w]
   refine wpList_nil ?_
   (try simp only [Exit.then, Exit.inBlock, ↓reduceIte, Nat.reduceEqDiff])
   refine hK3 _ _ ?_
   refine wp_block ?_
   refine wp_seq_k (fun K4 hK4 => ?_)
   refine wp_seq_k (fun K5 hK5 => ?_)
   refine wp_region_lit ?_
   refine wpList_plain rfl (fun Ko hKo => ?_)
   go_simp
   refine hKo _ _ ?_
   clear hKo Ko
   try simp only [Act.put, nm1, nm2, nm3, i64_w]
   refine wpList_plain rfl (fun Ko hKo => ?_)
   go_simp
   refine hKo _ _ ?_
   clear hKo Ko
   try simp only [Act.put, nm1, nm2, nm3, i64_w]
   refine wpList_nil ?_
   (try simp only [Exit.then, Exit.inBlock, ↓reduceIte, Nat.reduceEqDiff])
   refine hK5 _ _ ?_
   refine wp_cond_false rfl ?_
   refine wp_seq_k (fun K8 hK8 => ?_)
   refine wp_region_lit ?_
   refine wpList_plain rfl (fun Ko hKo => ?_)
   go_simp
   refine hKo _ _ ?_
   clear hKo Ko
   try simp only [Act.put, nm1, nm2, nm3, i64_w]
   refine wpList_plain rfl (fun Ko hKo => ?_)
   go_simp
   refine hKo _ _ ?_
   clear hKo Ko
   try simp only [Act.put, nm1, nm2, nm3, i64_w]
   refine wpList_nil ?_
   (try simp only [Exit.then, Exit.inBlock, ↓reduceIte, Nat.reduceEqDiff])
   refine hK8 _ _ ?_
   refine wp_cond_true rfl ?_
   refine wp_skip ?_
   (try simp only [Exit.then, Exit.inBlock, ↓reduceIte, Nat.reduceEqDiff])
   refine hK4 _ _ ?_
   refine wp_cond_true rfl ?_
   refine wp_seq_k (fun K10 hK10 => ?_)
   refine wp_region_lit ?_
   refine wpList_plain rfl (fun Ko hKo => ?_)
   go_simp
   refine hKo _ _ ?_
   clear hKo Ko
   try simp only [Act.put, nm1, nm2, nm3, i64_w]
   refine wpList_nil ?_
   (try simp only [Exit.then, Exit.inBlock, ↓reduceIte, Nat.reduceEqDiff])
   refine hK10 _ _ ?_
   refine wp_ret ?_
   (try simp only [Exit.then, Exit.inBlock, ↓reduceIte, Nat.reduceEqDiff])
   refine hQf _ _ _ ?_
   exact bodyPost_ret (v := .bool true) (by first | rfl | (simp [results, Tryd.results16, go_sem]; done) | (simp [results, Tryd.results16, go_sem]; rfl)) rfl ⟨rfl, (Up.refl _)⟩
  ·
   rw [if_neg c9] at H
   replace c9 := Bool.eq_false_iff.mpr c9
   have c9n : (a0 != 5) = true := by rw [bne, c9]; rfl
   have c9p : ¬ a0 = 5 := fun e => by simp [e] at c9
   by_cases c12 : (a0 == 7) = true
   ·
    rw [if_pos c12] at H
    have c12n : (a0 != 7) = false := by rw [bne, c12]; rfl
    obtain rfl := Option.some.inj H
    go_enter Tryd.func16, Tryd.ntmps16
    refine wp_hide (fun Qf hQf => ?_)
    refine wp_seq_k (fun K1 hK1 => ?_)
    refine wp_region_lit ?_
    refine wpList_plain rfl (fun Ko hKo => ?_)
    go_simp
    refine hKo _ _ ?_
    clear hKo Ko
    try simp only [Act.put, nm1, nm2, nm3, i64_w]
    refine wpList_nil ?_
    (try simp only [Exit.then, Exit.inBlock, ↓reduceIte, Nat.reduceEqDiff])
    refine hK1 _ _ ?_
    refine wp_seq_k (fun K2 hK2 => ?_)
    refine wp_seq_k (fun K3 hK3 => ?_)
    refine wp_region_lit ?_
    refine wpList_plain rfl (fun Ko hKo => ?_)
    go_simp
    refine hKo _ _ ?_
    clear hKo Ko
    try simp only [Act.put, nm1, nm2, nm3, i64_w]
    refine wpList_nil ?_
    (try simp only [Exit.then, Exit.inBlock, ↓reduceIte, Nat.reduceEqDiff])
    refine hK3 _ _ ?_
    refine wp_block ?_
    refine wp_seq_k (fun K4 hK4 => ?_)
    refine wp_seq_k (fun K5 hK5 => ?_)
    refine wp_region_lit ?_
    refine wpList_plain rfl (fun Ko hKo => ?_)
    go_simp
    refine hKo _ _ ?_
    clear hKo Ko
    try simp only [Act.put, nm1, nm2, nm3, i64_w]
    refine wpList_plain rfl (fun Ko hKo => ?_)
    go_simp
    refine hKo _ _ ?_
    clear hKo Ko
    try simp only [Act.put, nm1, nm2, nm3, i64_w]
    refine wpList_nil ?_
    (try simp only [Exit.then, Exit.inBlock, ↓reduceIte, Nat.reduceEqDiff])
    refine hK5 _ _ ?_
    refine wp_cond_false rfl ?_
    refine wp_seq_k (fun K8 hK8 => ?_)
    refine wp_region_lit ?_
    refine wpList_plain rfl (fun Ko hKo => ?_)
    go_simp
    refine hKo _ _ ?_
    clear hKo Ko
    try simp only [Act.put, nm1, nm2, nm3, i64_w]
    refine wpList_plain rfl (fun Ko hKo => ?_)
    go_simp
    refine hKo _ _ ?_
    clear hKo Ko
    try simp only [Act.put, nm1, nm2, nm3, i64_w]
    refine wpList_nil ?_
    (try simp only [Exit.then, Exit.inBlock, ↓reduceIte, Nat.reduceEqDiff])
    refine hK8 _ _ ?_
    refine wp_cond_false rfl ?_
    refine wp_seq_k (fun K11 hK11 => ?_)
    refine wp_region_lit ?_
    refine wpList_plain rfl (fun Ko hKo => ?_)
    go_simp
    refine hKo _ _ ?_
    clear hKo Ko
    try simp only [Act.put, nm1, nm2, nm3, i64_w]
    refine wpList_plain rfl (fun Ko hKo => ?_)
    go_simp
    refine hKo _ _ ?_
    clear hKo Ko
    try simp only [Act.put, nm1, nm2, nm3, i64_w]
    refine wpList_nil ?_
    (try simp only [Exit.then, Exit.inBlock, ↓reduceIte, Nat.reduceEqDiff])
    refine hK11 _ _ ?_
    refine wp_cond_true rfl ?_
    refine wp_skip ?_
    (try simp only [Exit.then, Exit.inBlock, ↓reduceIte, Nat.reduceEqDiff])
    refine hK4 _ _ ?_
    refine wp_cond_true rfl ?_
    refine wp_seq_k (fun K13 hK13 => ?_)
    refine wp_region_lit ?_
    refine wpList_plain rfl (fun Ko hKo => ?_)
    go_simp
    refine hKo _ _ ?_
    clear hKo Ko
    try simp only [Act.put, nm1, nm2, nm3, i64_w]
    refine wpList_nil ?_
    (try simp only [Exit.then, Exit.inBlock, ↓reduceIte, Nat.reduceEqDiff])
    refine hK13 _ _ ?_
    refine wp_ret ?_
    (try simp only [Exit.then, Exit.inBlock, ↓reduceIte, Nat.reduceEqDiff])
    refine hQf _ _ _ ?_
    exact bodyPost_ret (v := .bool true) (by first | rfl | (simp [results, Tryd.results16, go_sem]; done) | (simp [results, Tryd.results16, go_sem]; rfl)) rfl ⟨rfl, (Up.refl _)⟩
   ·
    rw [if_neg c12] at H
    replace c12 := Bool.eq_false_iff.mpr c12
    have c12n : (a0 != 7) = true := by rw [bne, c12]; rfl
    have c12p : ¬ a0 = 7 := fun e => by simp [e] at c12
    by_cases c15 : (a0 == 11) = true
    ·
     rw [if_pos c15] at H
     have c15n : (a0 != 11) = false := by rw [bne, c15]; rfl
     obtain rfl := Option.some.inj H
     go_enter Tryd.func16, Tryd.ntmps16
     refine wp_hide (fun Qf hQf => ?_)
     refine wp_seq_k (fun K1 hK1 => ?_)
     refine wp_region_lit ?_
     refine wpList_plain rfl (fun Ko hKo => ?_)
     go_simp
     refine hKo _ _ ?_
     clear hKo Ko
     try simp only [Act.put, nm1, nm2, nm3, i64_w]
     refine wpList_nil ?_
     (try simp only [Exit.then, Exit.inBlock, ↓reduceIte, Nat.reduceEqDiff])
     refine hK1 _ _ ?_
     refine wp_seq_k (fun K2 hK2 => ?_)
     refine wp_seq_k (fun K3 hK3 => ?_)
     refine wp_region_lit ?_
     refine wpList_plain rfl (fun Ko hKo => ?_)
     go_simp
     refine hKo _ _ ?_
     clear hKo Ko
     try simp only [Act.put, nm1, nm2, nm3, i64_w]
     refine wpList_nil ?_
     (try simp only [Exit.then, Exit.inBlock, ↓reduceIte, Nat.reduceEqDiff])
     refine hK3 _ _ ?_
     refine wp_block ?_
     refine wp_seq_k (fun K4 hK4 => ?_)
     refine wp_seq_k (fun K5 hK5 => ?_)
     refine wp_region_lit ?_
     refine wpList_plain rfl (fun Ko hKo => ?_)
     go_simp
     refine hKo _ _ ?_
     clear hKo Ko
     try simp only [Act.put, nm1, nm2, nm3, i64_w]
     refine wpList_plain rfl (fun Ko hKo => ?_)
     go_simp
     refine hKo _ _ ?_
     clear hKo Ko
     try simp only [Act.put, nm1, nm2, nm3, i64_w]
     refine wpList_nil ?_
     (try simp only [Exit.then, Exit.inBlock, ↓reduceIte, Nat.reduceEqDiff])
     refine hK5 _ _ ?_
     refine wp_cond_false rfl ?_
     refine wp_seq_k (fun K8 hK8 => ?_)
     refine wp_region_lit ?_
     refine wpList_plain rfl (fun Ko hKo => ?_)
     go_simp
     refine hKo _ _ ?_
     clear hKo Ko
     try simp only [Act.put, nm1, nm2, nm3, i64_w]
     refine wpList_plain rfl (fun Ko hKo => ?_)
     go_simp
     refine hKo _ _ ?_
     clear hKo Ko
     try simp only [Act.put, nm1, nm2, nm3, i64_w]
     refine wpList_nil ?_
     (try simp only [Exit.then, Exit.inBlock, ↓reduceIte, Nat.reduceEqDiff])
     refine hK8 _ _ ?_
     refine wp_cond_false rfl ?_
     refine wp_seq_k (fun K11 hK11 => ?_)
     refine wp_region_lit ?_
     refine wpList_plain rfl (fun Ko hKo => ?_)
     go_simp
     refine hKo _ _ ?_
     clear hKo Ko
     try simp only [Act.put, nm1, nm2, nm3, i64_w]
     refine wpList_plain rfl (fun Ko hKo => ?_)
     go_simp
     refine hKo _ _ ?_
     clear hKo Ko
     try simp only [Act.put, nm1, nm2, nm3, i64_w]
     refine wpList_nil ?_
     (try simp only [Exit.then, Exit.inBlock, ↓reduceIte, Nat.reduceEqDiff])
     refine hK11 _ _ ?_
     refine wp_cond_false rfl ?_
     refine wp_seq_k (fun K14 hK14 => ?_)
     refine wp_region_lit ?_
     refine wpList_plain rfl (fun Ko hKo => ?_)
     go_simp
     refine hKo _ _ ?_
     clear hKo Ko
     try simp only [Act.put, nm1, nm2, nm3, i64_w]
     refine wpList_plain rfl (fun Ko hKo => ?_)
     go_simp
     refine hKo _ _ ?_
     clear hKo Ko
     try simp only [Act.put, nm1, nm2, nm3, i64_w]
     refine wpList_nil ?_
     (try simp only [Exit.then, Exit.inBlock, ↓reduceIte, Nat.reduceEqDiff])
     refine hK14 _ _ ?_
     refine wp_cond_true rfl ?_
     refine wp_skip ?_
     (try simp only [Exit.then, Exit.inBlock, ↓reduceIte, Nat.reduceEqDiff])
     refine hK4 _ _ ?_
     refine wp_cond_true rfl ?_
     refine wp_seq_k (fun K16 hK16 => ?_)
     refine wp_region_lit ?_
     refine wpList_plain rfl (fun Ko hKo => ?_)
     go_simp
     refine hKo _ _ ?_
     clear hKo Ko
     try simp only [Act.put, nm1, nm2, nm3, i64_w]
     refine wpList_nil ?_
     (try simp only [Exit.then, Exit.inBlock, ↓reduceIte, Nat.reduceEqDiff])
     refine hK16 _ _ ?_
     refine wp_ret ?_
     (try simp only [Exit.then, Exit.inBlock, ↓reduceIte, Nat.reduceEqDiff])
     refine hQf _ _ _ ?_
     exact bodyPost_ret (v := .bool true) (by first | rfl | (simp [results, Tryd.results16, go_sem]; done) | (simp [results, Tryd.results16, go_sem]; rfl)) rfl ⟨rfl, (Up.refl _)⟩
    ·
     rw [if_neg c15] at H
     replace c15 := Bool.eq_false_iff.mpr c15
     have c15n : (a0 != 11) = true := by rw [bne, c15]; rfl
     have c15p : ¬ a0 = 11 := fun e => by simp [e] at c15
     by_cases c18 : (a0 == 13) = true
     ·
      rw [if_pos c18] at H
      have c18n : (a0 != 13) = false := by rw [bne, c18]; rfl
      obtain rfl := Option.some.inj H
      go_enter Tryd.func16, Tryd.ntmps16
      refine wp_hide (fun Qf hQf => ?_)
      refine wp_seq_k (fun K1 hK1 => ?_)
      refine wp_region_lit ?_
      refine wpList_plain rfl (fun Ko hKo => ?_)
      go_simp
      refine hKo _ _ ?_
      clear hKo Ko
      try simp only [Act.put, nm1, nm2, nm3, i64_w]
      refine wpList_nil ?_
      (try simp only [Exit.then, Exit.inBlock, ↓reduceIte, Nat.reduceEqDiff])
      refine hK1 _ _ ?_
      refine wp_seq_k (fun K2 hK2 => ?_)
      refine wp_seq_k (fun K3 hK3 => ?_)
      refine wp_region_lit ?_
      refine wpList_plain rfl (fun Ko hKo => ?_)
      go_simp
      refine hKo _ _ ?_
      clear hKo Ko
      try simp only [Act.put, nm1, nm2, nm3, i64_w]
      refine wpList_nil ?_
      (try simp only [Exit.then, Exit.inBlock, ↓reduceIte, Nat.reduceEqDiff])
      refine hK3 _ _ ?_
      refine wp_block ?_
      refine wp_seq_k (fun K4 hK4 => ?_)
      refine wp_seq_k (fun K5 hK5 => ?_)
      refine wp_region_lit ?_
      refine wpList_plain rfl (fun Ko hKo => ?_)
      go_simp
      refine hKo _ _ ?_
      clear hKo Ko
      try simp only [Act.put, nm1, nm2, nm3, i64_w]
      refine wpList_plain rfl (fun Ko hKo => ?_)
      go_simp
      refine hKo _ _ ?_
      clear hKo Ko
      try simp only [Act.put, nm1, nm2, nm3, i64_w]
      refine wpList_nil ?_
      (try simp only [Exit.then, Exit.inBlock, ↓reduceIte, Nat.reduceEqDiff])
      refine hK5 _ _ ?_
      refine wp_cond_false rfl ?_
      refine wp_seq_k (fun K8 hK8 => ?_)
      refine wp_region_lit ?_
      refine wpList_plain rfl (fun Ko hKo => ?_)
      go_simp
      refine hKo _ _ ?_
      clear hKo Ko
      try simp only [Act.put, nm1, nm2, nm3, i64_w]
      refine wpList_plain rfl (fun Ko hKo => ?_)
      go_simp
      refine hKo _ _ ?_
      clear hKo Ko
      try simp only [Act.put, nm1, nm2, nm3, i64_w]
      refine wpList_nil ?_
      (try simp only [Exit.then, Exit.inBlock, ↓reduceIte, Nat.reduceEqDiff])
      refine hK8 _ _ ?_
      refine wp_cond_false rfl ?_
      refine wp_seq_k (fun K11 hK11 => ?_)
      refine wp_region_lit ?_
      refine wpList_plain rfl (fun Ko hKo => ?_)
      go_simp
      refine hKo _ _ ?_
      clear hKo Ko
      try simp only [Act.put, nm1, nm2, nm3, i64_w]
      refine wpList_plain rfl (fun Ko hKo => ?_)
      go_simp
      refine hKo _ _ ?_
      clear hKo Ko
      try simp only [Act.put, nm1, nm2, nm3, i64_w]
      refine wpList_nil ?_
      (try simp only [Exit.then, Exit.inBlock, ↓reduceIte, Nat.reduceEqDiff])
      refine hK11 _ _ ?_
      refine wp_cond_false rfl ?_
      refine wp_seq_k (fun K14 hK14 => ?_)
      refine wp_region_lit ?_
      refine wpList_plain rfl (fun Ko hKo => ?_)
      go_simp
      refine hKo _ _ ?_
      clear hKo Ko
      try simp only [Act.put, nm1, nm2, nm3, i64_w]
      refine wpList_plain rfl (fun Ko hKo => ?_)
      go_simp
      refine hKo _ _ ?_
      clear hKo Ko
      try simp only [Act.put, nm1, nm2, nm3, i64_w]
      refine wpList_nil ?_
      (try simp only [Exit.then, Exit.inBlock, ↓reduceIte, Nat.reduceEqDiff])
      refine hK14 _ _ ?_
      refine wp_cond_false rfl ?_
      refine wp_seq_k (fun K17 hK17 => ?_)
      refine wp_region_lit ?_
      refine wpList_plain rfl (fun Ko hKo => ?_)
      go_simp
      refine hKo _ _ ?_
      clear hKo Ko
      try simp only [Act.put, nm1, nm2, nm3, i64_w]
      refine wpList_plain rfl (fun Ko hKo => ?_)
      go_simp
      refine hKo _ _ ?_
      clear hKo Ko
      try simp only [Act.put, nm1, nm2, nm3, i64_w]
      refine wpList_nil ?_
      (try simp only [Exit.then, Exit.inBlock, ↓reduceIte, Nat.reduceEqDiff])
      refine hK17 _ _ ?_
      refine wp_cond_true rfl ?_
      refine wp_skip ?_
      (try simp only [Exit.then, Exit.inBlock, ↓reduceIte, Nat.reduceEqDiff])
      refine hK4 _ _ ?_
      refine wp_cond_true rfl ?_
      refine wp_seq_k (fun K19 hK19 => ?_)
      refine wp_region_lit ?_
      refine wpList_plain rfl (fun Ko hKo => ?_)
      go_simp
      refine hKo _ _ ?_
      clear hKo Ko
      try simp only [Act.put, nm1, nm2, nm3, i64_w]
      refine wpList_nil ?_
      (try simp only [Exit.then, Exit.inBlock, ↓reduceIte, Nat.reduceEqDiff])
      refine hK19 _ _ ?_
      refine wp_ret ?_
      (try simp only [Exit.then, Exit.inBlock, ↓reduceIte, Nat.reduceEqDiff])
      refine hQf _ _ _ ?_
      exact bodyPost_ret (v := .bool true) (by first | rfl | (simp [results, Tryd.results16, go_sem]; done) | (simp [results, Tryd.results16, go_sem]; rfl)) rfl ⟨rfl, (Up.refl _)⟩
     ·
      rw [if_neg c18] at H
      replace c18 := Bool.eq_false_iff.mpr c18
      have c18n : (a0 != 13) = true := by rw [bne, c18]; rfl
      have c18p : ¬ a0 = 13 := fun e => by simp [e] at c18
      by_cases c21 : (a0 == 17) = true
      ·
       rw [if_pos c21] at H
       have c21n : (a0 != 17) = false := by rw [bne, c21]; rfl
       obtain rfl := Option.some.inj H
       go_enter Tryd.func16, Tryd.ntmps16
       refine wp_hide (fun Qf hQf => ?_)
       refine wp_seq_k (fun K1 hK1 => ?_)
       refine wp_region_lit ?_
       refine wpList_plain rfl (fun Ko hKo => ?_)
       go_simp
       refine hKo _ _ ?_
       clear hKo Ko
       try simp only [Act.put, nm1, nm2, nm3, i64_w]
       refine wpList_nil ?_
       (try simp only [Exit.then, Exit.inBlock, ↓reduceIte, Nat.reduceEqDiff])
       refine hK1 _ _ ?_
       refine wp_seq_k (fun K2 hK2 => ?_)
       refine wp_seq_k (fun K3 hK3 => ?_)
       refine wp_region_lit ?_
       refine wpList_plain rfl (fun Ko hKo => ?_)
       go_simp
       refine hKo _ _ ?_
       clear hKo Ko
       try simp only [Act.put, nm1, nm2, nm3, i64_w]
       refine wpList_nil ?_
       (try simp only [Exit.then, Exit.inBlock, ↓reduceIte, Nat.reduceEqDiff])
       refine hK3 _ _ ?_
       refine wp_block ?_
       refine wp_seq_k (fun K4 hK4 => ?_)
       refine wp_seq_k (fun K5 hK5 => ?_)
       refine wp_region_lit ?_
       refine wpList_plain rfl (fun Ko hKo => ?_)
       go_simp
       refine hKo _ _ ?_
       clear hKo Ko
       try simp only [Act.put, nm1, nm2, nm3, i64_w]
       refine wpList_plain rfl (fun Ko hKo => ?_)
       go_simp
       refine hKo _ _ ?_
       clear hKo Ko
       try simp only [Act.put, nm1, nm2, nm3, i64_w]
       refine wpList_nil ?_
       (try simp only [Exit.then, Exit.inBlock, ↓reduceIte, Nat.reduceEqDiff])
       refine hK5 _ _ ?_
       refine wp_cond_false rfl ?_
       refine wp_seq_k (fun K8 hK8 => ?_)
       refine wp_region_lit ?_
       refine wpList_plain rfl (fun Ko hKo => ?_)
       go_simp
       refine hKo _ _ ?_
       clear hKo Ko
       try simp only [Act.put, nm1, nm2, nm3, i64_w]
       refine wpList_plain rfl (fun Ko hKo => ?_)
       go_simp
       refine hKo _ _ ?_
       clear hKo Ko
       try simp only [Act.put, nm1, nm2, nm3, i64_w]
       refine wpList_nil ?_
       (try simp only [Exit.then, Exit.inBlock, ↓reduceIte, Nat.reduceEqDiff])
       refine hK8 _ _ ?_
       refine wp_cond_false rfl ?_
       refine wp_seq_k (fun K11 hK11 => ?_)
       refine wp_region_lit ?_
       refine wpList_plain rfl (fun Ko hKo => ?_)
       go_simp
       refine hKo _ _ ?_
       clear hKo Ko
       try simp only [Act.put, nm1, nm2, nm3, i64_w]
       refine wpList_plain rfl (fun Ko hKo => ?_)
       go_simp
       refine hKo _ _ ?_
       clear hKo Ko
       try simp only [Act.put, nm1, nm2, nm3, i64_w]
       refine wpList_nil ?_
       (try simp only [Exit.then, Exit.inBlock, ↓reduceIte, Nat.reduceEqDiff])
       refine hK11 _ _ ?_
       refine wp_cond_false rfl ?_
       refine wp_seq_k (fun K14 hK14 => ?_)
       refine wp_region_lit ?_
       refine wpList_plain rfl (fun Ko hKo => ?_)
       go_simp
       refine hKo _ _ ?_
       clear hKo Ko
       try simp only [Act.put, nm1, nm2, nm3, i64_w]
       refine wpList_plain rfl (fun Ko hKo => ?_)
       go_simp
       refine hKo _ _ ?_
       clear hKo Ko
       try simp only [Act.put, nm1, nm2, nm3, i64_w]
       refine wpList_nil ?_
       (try simp only [Exit.then, Exit.inBlock, ↓reduceIte, Nat.reduceEqDiff])
       refine hK14 _ _ ?_
       refine wp_cond_false rfl ?_
       refine wp_seq_k (fun K17 hK17 => ?_)
       refine wp_region_lit ?_
       refine wpList_plain rfl (fun Ko hKo => ?_)
       go_simp
       refine hKo _ _ ?_
       clear hKo Ko
       try simp only [Act.put, nm1, nm2, nm3, i64_w]
       refine wpList_plain rfl (fun Ko hKo => ?_)
       go_simp
       refine hKo _ _ ?_
       clear hKo Ko
       try simp only [Act.put, nm1, nm2, nm3, i64_w]
       refine wpList_nil ?_
       (try simp only [Exit.then, Exit.inBlock, ↓reduceIte, Nat.reduceEqDiff])
       refine hK17 _ _ ?_
       refine wp_cond_false rfl ?_
       refine wp_seq_k (fun K20 hK20 => ?_)
       refine wp_region_lit ?_
       refine wpList_plain rfl (fun Ko hKo => ?_)
       go_simp
       refine hKo _ _ ?_
       clear hKo Ko
       try simp only [Act.put, nm1, nm2, nm3, i64_w]
       refine wpList_plain rfl (fun Ko hKo => ?_)
       go_simp
       refine hKo _ _ ?_
       clear hKo Ko
       try simp only [Act.put, nm1, nm2, nm3, i64_w]
       refine wpList_nil ?_
       (try simp only [Exit.then, Exit.inBlock, ↓reduceIte, Nat.reduceEqDiff])
       refine hK20 _ _ ?_
       refine wp_cond_true rfl ?_
       refine wp_skip ?_
       (try simp only [Exit.then, Exit.inBlock, ↓reduceIte, Nat.reduceEqDiff])
       refine hK4 _ _ ?_
       refine wp_cond_true rfl ?_
       refine wp_seq_k (fun K22 hK22 => ?_)
       refine wp_region_lit ?_
       refine wpList_plain rfl (fun Ko hKo => ?_)
       go_simp
       refine hKo _ _ ?_
       clear hKo Ko
       try simp only [Act.put, nm1, nm2, nm3, i64_w]
       refine wpList_nil ?_
       (try simp only [Exit.then, Exit.inBlock, ↓reduceIte, Nat.reduceEqDiff])
       refine hK22 _ _ ?_
       refine wp_ret ?_
       (try simp only [Exit.then, Exit.inBlock, ↓reduceIte, Nat.reduceEqDiff])
       refine hQf _ _ _ ?_
       exact bodyPost_ret (v := .bool true) (by first | rfl | (simp [results, Tryd.results16, go_sem]; done) | (simp [results, Tryd.results16, go_sem]; rfl)) rfl ⟨rfl, (Up.refl _)⟩
      ·
       rw [if_neg c21] at H
       replace c21 := Bool.eq_false_iff.mpr c21
       have c21n : (a0 != 17) = true := by rw [bne, c21]; rfl
       have c21p : ¬ a0 = 17 := fun e => by simp [e] at c21
       by_cases c24 : (a0 == 19) = true
       ·
        rw [if_pos c24] at H
        have c24n : (a0 != 19) = false := by rw [bne, c24]; rfl
        obtain rfl := Option.some.inj H
        go_enter Tryd.func16, Tryd.ntmps16
        refine wp_hide (fun Qf hQf => ?_)
        refine wp_seq_k (fun K1 hK1 => ?_)
        refine wp_region_lit ?_
        refine wpList_plain rfl (fun Ko hKo => ?_)
        go_simp
        refine hKo _ _ ?_
        clear hKo Ko
        try simp only [Act.put, nm1, nm2, nm3, i64_w]
        refine wpList_nil ?_
        (try simp only [Exit.then, Exit.inBlock, ↓reduceIte, Nat.reduceEqDiff])
        refine hK1 _ _ ?_
        refine wp_seq_k (fun K2 hK2 => ?_)
        refine wp_seq_k (fun K3 hK3 => ?_)
        refine wp_region_lit ?_
        refine wpList_plain rfl (fun Ko hKo => ?_)
        go_simp
        refine hKo _ _ ?_
        clear hKo Ko
        try simp only [Act.put, nm1, nm2, nm3, i64_w]
        refine wpList_nil ?_
        (try simp only [Exit.then, Exit.inBlock, ↓reduceIte, Nat.reduceEqDiff])
        refine hK3 _ _ ?_
        refine wp_block ?_
        refine wp_seq_k (fun K4 hK4 => ?_)
        refine wp_seq_k (fun K5 hK5 => ?_)
        refine wp_region_lit ?_
        refine wpList_plain rfl (fun Ko hKo => ?_)
        go_simp
        refine hKo _ _ ?_
        clear hKo Ko
        try simp only [Act.put, nm1, nm2, nm3, i64_w]
        refine wpList_plain rfl (fun Ko hKo => ?_)
        go_simp
        refine hKo _ _ ?_
        clear hKo Ko
        try simp only [Act.put, nm1, nm2, nm3, i64_w]
        refine wpList_nil ?_
        (try simp only [Exit.then, Exit.inBlock, ↓reduceIte, Nat.reduceEqDiff])
        refine hK5 _ _ ?_
        refine wp_cond_false rfl ?_
        refine wp_seq_k (fun K8 hK8 => ?_)
        refine wp_region_lit ?_
        refine wpList_plain rfl (fun Ko hKo => ?_)
        go_simp
        refine hKo _ _ ?_
        clear hKo Ko
        try simp only [Act.put, nm1, nm2, nm3, i64_w]
        refine wpList_plain rfl (fun Ko hKo => ?_)
        go_simp
        refine hKo _ _ ?_
        clear hKo Ko
        try simp only [Act.put, nm1, nm2, nm3, i64_w]
        refine wpList_nil ?_
        (try simp only [Exit.then, Exit.inBlock, ↓reduceIte, Nat.reduceEqDiff])
        refine hK8 _ _ ?_
        refine wp_cond_false rfl ?_
        refine wp_seq_k (fun K11 hK11 => ?_)
        refine wp_region_lit ?_
        refine wpList_plain rfl (fun Ko hKo => ?_)
        go_simp
        refine hKo _ _ ?_
        clear hKo Ko
        try simp only [Act.put, nm1, nm2, nm3, i64_w]
        refine wpList_plain rfl (fun Ko hKo => ?_)
        go_simp
        refine hKo _ _ ?_
        clear hKo Ko
        try simp only [Act.put, nm1, nm2, nm3, i64_w]
        refine wpList_nil ?_
        (try simp only [Exit.then, Exit.inBlock, ↓reduceIte, Nat.reduceEqDiff])
        refine hK11 _ _ ?_
        refine wp_cond_false rfl ?_
        refine wp_seq_k (fun K14 hK14 => ?_)
        refine wp_region_lit ?_
        refine wpList_plain rfl (fun Ko hKo => ?_)
        go_simp
        refine hKo _ _ ?_
        clear hKo Ko
        try simp only [Act.put, nm1, nm2, nm3, i64_w]
        refine wpList_plain rfl (fun Ko hKo => ?_)
        go_simp
        refine hKo _ _ ?_
        clear hKo Ko
        try simp only [Act.put, nm1, nm2, nm3, i64_w]
        refine wpList_nil ?_
        (try simp only [Exit.then, Exit.inBlock, ↓reduceIte, Nat.reduceEqDiff])
        refine hK14 _ _ ?_
        refine wp_cond_false rfl ?_
        refine wp_seq_k (fun K17 hK17 => ?_)
        refine wp_region_lit ?_
        refine wpList_plain rfl (fun Ko hKo => ?_)
        go_simp
        refine hKo _ _ ?_
        clear hKo Ko
        try simp only [Act.put, nm1, nm2, nm3, i64_w]
        refine wpList_plain rfl (fun Ko hKo => ?_)
        go_simp
        refine hKo _ _ ?_
        clear hKo Ko
        try simp only [Act.put, nm1, nm2, nm3, i64_w]
        refine wpList_nil ?_
        (try simp only [Exit.then, Exit.inBlock, ↓reduceIte, Nat.reduceEqDiff])
        refine hK17 _ _ ?_
        refine wp_cond_false rfl ?_
        refine wp_seq_k (fun K20 hK20 => ?_)
        refine wp_region_lit ?_
        refine wpList_plain rfl (fun Ko hKo => ?_)
        go_simp
        refine hKo _ _ ?_
        clear hKo Ko
        try simp only [Act.put, nm1, nm2, nm3, i64_w]
        refine wpList_plain rfl (fun Ko hKo => ?_)
        go_simp
        refine hKo _ _ ?_
        clear hKo Ko
        try simp only [Act.put, nm1, nm2, nm3, i64_w]
        refine wpList_nil ?_
        (try simp only [Exit.then, Exit.inBlock, ↓reduceIte, Nat.reduceEqDiff])
        refine hK20 _ _ ?_
        refine wp_cond_false rfl ?_
        refine wp_seq_k (fun K23 hK23 => ?_)
        refine wp_region_lit ?_
        refine wpList_plain rfl (fun Ko hKo => ?_)
        go_simp
        refine hKo _ _ ?_
        clear hKo Ko
        try simp only [Act.put, nm1, nm2, nm3, i64_w]
        refine wpList_plain rfl (fun Ko hKo => ?_)
        go_simp
        refine hKo _ _ ?_
        clear hKo Ko
        try simp only [Act.put, nm1, nm2, nm3, i64_w]
        refine wpList_nil ?_
        (try simp only [Exit.then, Exit.inBlock, ↓reduceIte, Nat.reduceEqDiff])
        refine hK23 _ _ ?_
        refine wp_cond_true rfl ?_
        refine wp_skip ?_
        (try simp only [Exit.then, Exit.inBlock, ↓reduceIte, Nat.reduceEqDiff])
        refine hK4 _ _ ?_
        refine wp_cond_true rfl ?_
        refine wp_seq_k (fun K25 hK25 => ?_)
        refine wp_region_lit ?_
        refine wpList_plain rfl (fun Ko hKo => ?_)
        go_simp
        refine hKo _ _ ?_
        clear hKo Ko
        try simp only [Act.put, nm1, nm2, nm3, i64_w]
        refine wpList_nil ?_
        (try simp only [Exit.then, Exit.inBlock, ↓reduceIte, Nat.reduceEqDiff])
        refine hK25 _ _ ?_
        refine wp_ret ?_
        (try simp only [Exit.then, Exit.inBlock, ↓reduceIte, Nat.reduceEqDiff])
        refine hQf _ _ _ ?_
        exact bodyPost_ret (v := .bool true) (by first | rfl | (simp [results, Tryd.results16, go_sem]; done) | (simp [results, Tryd.results16, go_sem]; rfl)) rfl ⟨rfl, (Up.refl _)⟩
       ·
        rw [if_neg c24] at H
        replace c24 := Bool.eq_false_iff.mpr c24
        have c24n : (a0 != 19) = true := by rw [bne, c24]; rfl
        have c24p : ¬ a0 = 19 := fun e => by simp [e] at c24
        by_cases c27 : (a0 == 23) = true
        ·
         rw [if_pos c27] at H
         have c27n : (a0 != 23) = false := by rw [bne, c27]; rfl
         obtain rfl := Option.some.inj H
         go_enter Tryd.func16, Tryd.ntmps16
         refine wp_hide (fun Qf hQf => ?_)
         refine wp_seq_k (fun K1 hK1 => ?_)
         refine wp_region_lit ?_
         refine wpList_plain rfl (fun Ko hKo => ?_)
         go_simp
         refine hKo _ _ ?_
         clear hKo Ko
         try simp only [Act.put, nm1, nm2, nm3, i64_w]
         refine wpList_nil ?_
         (try simp only [Exit.then, Exit.inBlock, ↓reduceIte, Nat.reduceEqDiff])
         refine hK1 _ _ ?_
         refine wp_seq_k (fun K2 hK2 => ?_)
         refine wp_seq_k (fun K3 hK3 => ?_)
         refine wp_region_lit ?_
         refine wpList_plain rfl (fun Ko hKo => ?_)
         go_simp
         refine hKo _ _ ?_
         clear hKo Ko
         try simp only [Act.put, nm1, nm2, nm3, i64_w]
         refine wpList_nil ?_
         (try simp only [Exit.then, Exit.inBlock, ↓reduceIte, Nat.reduceEqDiff])
         refine hK3 _ _ ?_
         refine wp_block ?_
         refine wp_seq_k (fun K4 hK4 => ?_)
         refine wp_seq_k (fun K5 hK5 => ?_)
         refine wp_region_lit ?_
         refine wpList_plain rfl (fun Ko hKo => ?_)
         go_simp
         refine hKo _ _ ?_
         clear hKo Ko
         try simp only [Act.put, nm1, nm2, nm3, i64_w]
         refine wpList_plain rfl (fun Ko hKo => ?_)
         go_simp
         refine hKo _ _ ?_
         clear hKo Ko
         try simp only [Act.put, nm1, nm2, nm3, i64_w]
         refine wpList_nil ?_
         (try simp only [Exit.then, Exit.inBlock, ↓reduceIte, Nat.reduceEqDiff])
         refine hK5 _ _ ?_
         refine wp_cond_false rfl ?_
         refine wp_seq_k (fun K8 hK8 => ?_)
         refine wp_region_lit ?_
         refine wpList_plain rfl (fun Ko hKo => ?_)
         go_simp
         refine hKo _ _ ?_
         clear hKo Ko
         try simp only [Act.put, nm1, nm2, nm3, i64_w]
         refine wpList_plain rfl (fun Ko hKo => ?_)
         go_simp
         refine hKo _ _ ?_
         clear hKo Ko
         try simp only [Act.put, nm1, nm2, nm3, i64_w]
         refine wpList_nil ?_
         (try simp only [Exit.then, Exit.inBlock, ↓reduceIte, Nat.reduceEqDiff])
         refine hK8 _ _ ?_
         refine wp_cond_false rfl ?_
         refine wp_seq_k (fun K11 hK11 => ?_)
         refine wp_region_lit ?_
         refine wpList_plain rfl (fun Ko hKo => ?_)
         go_simp
         refine hKo _ _ ?_
         clear hKo Ko
         try simp only [Act.put, nm1, nm2, nm3, i64_w]
         refine wpList_plain rfl (fun Ko hKo => ?_)
         go_simp
         refine hKo _ _ ?_
         clear hKo Ko
         try simp only [Act.put, nm1, nm2, nm3, i64_w]
         refine wpList_nil ?_
         (try simp only [Exit.then, Exit.inBlock, ↓reduceIte, Nat.reduceEqDiff])
         refine hK11 _ _ ?_
         refine wp_cond_false rfl ?_
         refine wp_seq_k (fun K14 hK14 => ?_)
         refine wp_region_lit ?_
         refine wpList_plain rfl (fun Ko hKo => ?_)
         go_simp
         refine hKo _ _ ?_
         clear hKo Ko
         try simp only [Act.put, nm1, nm2, nm3, i64_w]
         refine wpList_plain rfl (fun Ko hKo => ?_)
         go_simp
         refine hKo _ _ ?_
         clear hKo Ko
         try simp only [Act.put, nm1, nm2, nm3, i64_w]
         refine wpList_nil ?_
         (try simp only [Exit.then, Exit.inBlock, ↓reduceIte, Nat.reduceEqDiff])
         refine hK14 _ _ ?_
         refine wp_cond_false rfl ?_
         refine wp_seq_k (fun K17 hK17 => ?_)
         refine wp_region_lit ?_
         refine wpList_plain rfl (fun Ko hKo => ?_)
         go_simp
         refine hKo _ _ ?_
         clear hKo Ko
         try simp only [Act.put, nm1, nm2, nm3, i64_w]
         refine wpList_plain rfl (fun Ko hKo => ?_)
         go_simp
         refine hKo _ _ ?_
         clear hKo Ko
         try simp only [Act.put, nm1, nm2, nm3, i64_w]
         refine wpList_nil ?_
         (try simp only [Exit.then, Exit.inBlock, ↓reduceIte, Nat.reduceEqDiff])
         refine hK17 _ _ ?_
         refine wp_cond_false rfl ?_
         refine wp_seq_k (fun K20 hK20 => ?_)
         refine wp_region_lit ?_
         refine wpList_plain rfl (fun Ko hKo => ?_)
         go_simp
         refine hKo _ _ ?_
         clear hKo Ko
         try simp only [Act.put, nm1, nm2, nm3, i64_w]
         refine wpList_plain rfl (fun Ko hKo => ?_)
         go_simp
         refine hKo _ _ ?_
         clear hKo Ko
         try simp only [Act.put, nm1, nm2, nm3, i64_w]
         refine wpList_nil ?_
         (try simp only [Exit.then, Exit.inBlock, ↓reduceIte, Nat.reduceEqDiff])
         refine hK20 _ _ ?_
         refine wp_cond_false rfl ?_
         refine wp_seq_k (fun K23 hK23 => ?_)
         refine wp_region_lit ?_
         refine wpList_plain rfl (fun Ko hKo => ?_)
         go_simp
         refine hKo _ _ ?_
         clear hKo Ko
         try simp only [Act.put, nm1, nm2, nm3, i64_w]
         refine wpList_plain rfl (fun Ko hKo => ?_)
         go_simp
         refine hKo _ _ ?_
         clear hKo Ko
         try simp only [Act.put, nm1, nm2, nm3, i64_w]
         refine wpList_nil ?_
         (try simp only [Exit.then, Exit.inBlock, ↓reduceIte, Nat.reduceEqDiff])
         refine hK23 _ _ ?_
         refine wp_cond_false rfl ?_
         refine wp_seq_k (fun K26 hK26 => ?_)
         refine wp_region_lit ?_
         refine wpList_plain rfl (fun Ko hKo => ?_)
         go_simp
         refine hKo _ _ ?_
         clear hKo Ko
         try simp only [Act.put, nm1, nm2, nm3, i64_w]
         refine wpList_plain rfl (fun Ko hKo => ?_)
         go_simp
         refine hKo _ _ ?_
         clear hKo Ko
         try simp only [Act.put, nm1, nm2, nm3, i64_w]
         refine wpList_nil ?_
         (try simp only [Exit.then, Exit.inBlock, ↓reduceIte, Nat.reduceEqDiff])
         refine hK26 _ _ ?_
         refine wp_cond_true rfl ?_
         refine wp_skip ?_
         (try simp only [Exit.then, Exit.inBlock, ↓reduceIte, Nat.reduceEqDiff])
         refine hK4 _ _ ?_
         refine wp_cond_true rfl ?_
         refine wp_seq_k (fun K28 hK28 => ?_)
         refine wp_region_lit ?_
         refine wpList_plain rfl (fun Ko hKo => ?_)
         go_simp
         refine hKo _ _ ?_
         clear hKo Ko
         try simp only [Act.put, nm1, nm2, nm3, i64_w]
         refine wpList_nil ?_
         (try simp only [Exit.then, Exit.inBlock, ↓reduceIte, Nat.reduceEqDiff])
         refine hK28 _ _ ?_
         refine wp_ret ?_
         (try simp only [Exit.then, Exit.inBlock, ↓reduceIte, Nat.reduceEqDiff])
         refine hQf _ _ _ ?_
         exact bodyPost_ret (v := .bool true) (by first | rfl | (simp [results, Tryd.results16, go_sem]; done) | (simp [results, Tryd.results16, go_sem]; rfl)) rfl ⟨rfl, (Up.refl _)⟩
        ·
         rw [if_neg c27] at H
         replace c27 := Bool.eq_false_iff.mpr c27
         have c27n : (a0 != 23) = true := by rw [bne, c27]; rfl
         have c27p : ¬ a0 = 23 := fun e => by simp [e] at c27
         by_cases c30 : (a0 == 29) = true
         ·
          rw [if_pos c30] at H
          have c30n : (a0 != 29) = false := by rw [bne, c30]; rfl
          obtain rfl := Option.some.inj H
          go_enter Tryd.func16, Tryd.ntmps16
          refine wp_hide (fun Qf hQf => ?_)
          refine wp_seq_k (fun K1 hK1 => ?_)
          refine wp_region_lit ?_
          refine wpList_plain rfl (fun Ko hKo => ?_)
          go_simp
          refine hKo _ _ ?_
          clear hKo Ko
          try simp only [Act.put, nm1, nm2, nm3, i64_w]
          refine wpList_nil ?_
          (try simp only [Exit.then, Exit.inBlock, ↓reduceIte, Nat.reduceEqDiff])
          refine hK1 _ _ ?_
          refine wp_seq_k (fun K2 hK2 => ?_)
          refine wp_seq_k (fun K3 hK3 => ?_)
          refine wp_region_lit ?_
          refine wpList_plain rfl (fun Ko hKo => ?_)
          go_simp
          refine hKo _ _ ?_
          clear hKo Ko
          try simp only [Act.put, nm1, nm2, nm3, i64_w]
          refine wpList_nil ?_
          (try simp only [Exit.then, Exit.inBlock, ↓reduceIte, Nat.reduceEqDiff])
          refine hK3 _ _ ?_
          refine wp_block ?_
          refine wp_seq_k (fun K4 hK4 => ?_)
          refine wp_seq_k (fun K5 hK5 => ?_)
          refine wp_region_lit ?_
          refine wpList_plain rfl (fun Ko hKo => ?_)
          go_simp
          refine hKo _ _ ?_
          clear hKo Ko
          try simp only [Act.put, nm1, nm2, nm3, i64_w]
          refine wpList_plain rfl (fun Ko hKo => ?_)
          go_simp
          refine hKo _ _ ?_
          clear hKo Ko
          try simp only [Act.put, nm1, nm2, nm3, i64_w]
          refine wpList_nil ?_
          (try simp only [Exit.then, Exit.inBlock, ↓reduceIte, Nat.reduceEqDiff])
          refine hK5 _ _ ?_
          refine wp_cond_false rfl ?_
          refine wp_seq_k (fun K8 hK8 => ?_)
          refine wp_region_lit ?_
          refine wpList_plain rfl (fun Ko hKo => ?_)
          go_simp
          refine hKo _ _ ?_
          clear hKo Ko
          try simp only [Act.put, nm1, nm2, nm3, i64_w]
          refine wpList_plain rfl (fun Ko hKo => ?_)
          go_simp
          refine hKo _ _ ?_
          clear hKo Ko
          try simp only [Act.put, nm1, nm2, nm3, i64_w]
          refine wpList_nil ?_
          (try simp only [Exit.then, Exit.inBlock, ↓reduceIte, Nat.reduceEqDiff])
          refine hK8 _ _ ?_
          refine wp_cond_false rfl ?_
          refine wp_seq_k (fun K11 hK11 => ?_)
          refine wp_region_lit ?_
          refine wpList_plain rfl (fun Ko hKo => ?_)
          go_simp
          refine hKo _ _ ?_
          clear hKo Ko
          try simp only [Act.put, nm1, nm2, nm3, i64_w]
          refine wpList_plain rfl (fun Ko hKo => ?_)
          go_simp
          refine hKo _ _ ?_
          clear hKo Ko
          try simp only [Act.put, nm1, nm2, nm3, i64_w]
          refine wpList_nil ?_
          (try simp only [Exit.then, Exit.inBlock, ↓reduceIte, Nat.reduceEqDiff])
          refine hK11 _ _ ?_
          refine wp_cond_false rfl ?_
          refine wp_seq_k (fun K14 hK14 => ?_)
          refine wp_region_lit ?_
          refine wpList_plain rfl (fun Ko hKo => ?_)
          go_simp
          refine hKo _ _ ?_
          clear hKo Ko
          try simp only [Act.put, nm1, nm2, nm3, i64_w]
          refine wpList_plain rfl (fun Ko hKo => ?_)
          go_simp
          refine hKo _ _ ?_
          clear hKo Ko
          try simp only [Act.put, nm1, nm2, nm3, i64_w]
          refine wpList_nil ?_
          (try simp only [Exit.then, Exit.inBlock, ↓reduceIte, Nat.reduceEqDiff])
          refine hK14 _ _ ?_
          refine wp_cond_false rfl ?_
          refine wp_seq_k (fun K17 hK17 => ?_)
          refine wp_region_lit ?_
          refine wpList_plain rfl (fun Ko hKo => ?_)
          go_simp
          refine hKo _ _ ?_
          clear hKo Ko
          try simp only [Act.put, nm1, nm2, nm3, i64_w]
          refine wpList_plain rfl (fun Ko hKo => ?_)
          go_simp
          refine hKo _ _ ?_
          clear hKo Ko
          try simp only [Act.put, nm1, nm2, nm3, i64_w]
          refine wpList_nil ?_
          (try simp only [Exit.then, Exit.inBlock, ↓reduceIte, Nat.reduceEqDiff])
          refine hK17 _ _ ?_
          refine wp_cond_false rfl ?_
          refine wp_seq_k (fun K20 hK20 => ?_)
          refine wp_region_lit ?_
          refine wpList_plain rfl (fun Ko hKo => ?_)
          go_simp
          refine hKo _ _ ?_
          clear hKo Ko
          try simp only [Act.put, nm1, nm2, nm3, i64_w]
          refine wpList_plain rfl (fun Ko hKo => ?_)
          go_simp
          refine hKo _ _ ?_
          clear hKo Ko
          try simp only [Act.put, nm1, nm2, nm3, i64_w]
          refine wpList_nil ?_
          (try simp only [Exit.then, Exit.inBlock, ↓reduceIte, Nat.reduceEqDiff])
          refine hK20 _ _ ?_
          refine wp_cond_false rfl ?_
          refine wp_seq_k (fun K23 hK23 => ?_)
          refine wp_region_lit ?_
          refine wpList_plain rfl (fun Ko hKo => ?_)
          go_simp
          refine hKo _ _ ?_
          clear hKo Ko
          try simp only [Act.put, nm1, nm2, nm3, i64_w]
          refine wpList_plain rfl (fun Ko hKo => ?_)
          go_simp
          refine hKo _ _ ?_
          clear hKo Ko
          try simp only [Act.put, nm1, nm2, nm3, i64_w]
          refine wpList_nil ?_
          (try simp only [Exit.then, Exit.inBlock, ↓reduceIte, Nat.reduceEqDiff])
          refine hK23 _ _ ?_
          refine wp_cond_false rfl ?_
          refine wp_seq_k (fun K26 hK26 => ?_)
          refine wp_region_lit ?_
          refine wpList_plain rfl (fun Ko hKo => ?_)
          go_simp
          refine hKo _ _ ?_
          clear hKo Ko
          try simp only [Act.put, nm1, nm2, nm3, i64_w]
          refine wpList_plain rfl (fun Ko hKo => ?_)
          go_simp
          refine hKo _ _ ?_
          clear hKo Ko
          try simp only [Act.put, nm1, nm2, nm3, i64_w]
          refine wpList_nil ?_
          (try simp only [Exit.then, Exit.inBlock, ↓reduceIte, Nat.reduceEqDiff])
          refine hK26 _ _ ?_
          refine wp_cond_false rfl ?_
          refine wp_seq_k (fun K29 hK29 => ?_)
          refine wp_region_lit ?_
          refine wpList_plain rfl (fun Ko hKo => ?_)
          go_simp
          refine hKo _ _ ?_
          clear hKo Ko
          try simp only [Act.put, nm1, nm2, nm3, i64_w]
          refine wpList_plain rfl (fun Ko hKo => ?_)
          go_simp
          refine hKo _ _ ?_
          clear hKo Ko
          try simp only [Act.put, nm1, nm2, nm3, i64_w]
          refine wpList_nil ?_
          (try simp only [Exit.then, Exit.inBlock, ↓reduceIte, Nat.reduceEqDiff])
          refine hK29 _ _ ?_
          refine wp_cond_true rfl ?_
          refine wp_skip ?_
          (try simp only [Exit.then, Exit.inBlock, ↓reduceIte, Nat.reduceEqDiff])
          refine hK4 _ _ ?_
          refine wp_cond_true rfl ?_
          refine wp_seq_k (fun K31 hK31 => ?_)
          refine wp_region_lit ?_
          refine wpList_plain rfl (fun Ko hKo => ?_)
          go_simp
          refine hKo _ _ ?_
          clear hKo Ko
          try simp only [Act.put, nm1, nm2, nm3, i64_w]
          refine wpList_nil ?_
          (try simp only [Exit.then, Exit.inBlock, ↓reduceIte, Nat.reduceEqDiff])
          refine hK31 _ _ ?_
          refine wp_ret ?_
          (try simp only [Exit.then, Exit.inBlock, ↓reduceIte, Nat.reduceEqDiff])
          refine hQf _ _ _ ?_
          exact bodyPost_ret (v := .bool true) (by first | rfl | (simp [results, Tryd.results16, go_sem]; done) | (simp [results, Tryd.results16, go_sem]; rfl)) rfl ⟨rfl, (Up.refl _)⟩
         ·
          rw [if_neg c30] at H
          replace c30 := Bool.eq_false_iff.mpr c30
          have c30n : (a0 != 29) = true := by rw [bne, c30]; rfl
          have c30p : ¬ a0 = 29 := fun e => by simp [e] at c30
          by_cases c32 : (a0 == 31) = true
          ·
           rw [if_pos c32] at H
           have c32n : (a0 != 31) = false := by rw [bne, c32]; rfl
           obtain rfl := Option.some.inj H
           go_enter Tryd.func16, Tryd.ntmps16
           refine wp_hide (fun Qf hQf => ?_)
           refine wp_seq_k (fun K1 hK1 => ?_)
           refine wp_region_lit ?_
           refine wpList_plain rfl (fun Ko hKo => ?_)
           go_simp
           refine hKo _ _ ?_
           clear hKo Ko
           try simp only [Act.put, nm1, nm2, nm3, i64_w]
           refine wpList_nil ?_
           (try simp only [Exit.then, Exit.inBlock, ↓reduceIte, Nat.reduceEqDiff])
           refine hK1 _ _ ?_
           refine wp_seq_k (fun K2 hK2 => ?_)
           refine wp_seq_k (fun K3 hK3 => ?_)
           refine wp_region_lit ?_
           refine wpList_plain rfl (fun Ko hKo => ?_)
           go_simp
           refine hKo _ _ ?_
           clear hKo Ko
           try simp only [Act.put, nm1, nm2, nm3, i64_w]
           refine wpList_nil ?_
           (try simp only [Exit.then, Exit.inBlock, ↓reduceIte, Nat.reduceEqDiff])
           refine hK3 _ _ ?_
           refine wp_block ?_
           refine wp_seq_k (fun K4 hK4 => ?_)
           refine wp_seq_k (fun K5 hK5 => ?_)
           refine wp_region_lit ?_
           refine wpList_plain rfl (fun Ko hKo => ?_)
           go_simp
           refine hKo _ _ ?_
           clear hKo Ko
           try simp only [Act.put, nm1, nm2, nm3, i64_w]
           refine wpList_plain rfl (fun Ko hKo => ?_)
           go_simp
           refine hKo _ _ ?_
           clear hKo Ko
           try simp only [Act.put, nm1, nm2, nm3, i64_w]
           refine wpList_nil ?_
           (try simp only [Exit.then, Exit.inBlock, ↓reduceIte, Nat.reduceEqDiff])
           refine hK5 _ _ ?_
           refine wp_cond_false rfl ?_
           refine wp_seq_k (fun K8 hK8 => ?_)
           refine wp_region_lit ?_
           refine wpList_plain rfl (fun Ko hKo => ?_)
           go_simp
           refine hKo _ _ ?_
           clear hKo Ko
           try simp only [Act.put, nm1, nm2, nm3, i64_w]
           refine wpList_plain rfl (fun Ko hKo => ?_)
           go_simp
           refine hKo _ _ ?_
           clear hKo Ko
           try simp only [Act.put, nm1, nm2, nm3, i64_w]
           refine wpList_nil ?_
           (try simp only [Exit.then, Exit.inBlock, ↓reduceIte, Nat.reduceEqDiff])
           refine hK8 _ _ ?_
           refine wp_cond_false rfl ?_
           refine wp_seq_k (fun K11 hK11 => ?_)
           refine wp_region_lit ?_
           refine wpList_plain rfl (fun Ko hKo => ?_)
           go_simp
           refine hKo _ _ ?_
           clear hKo Ko
           try simp only [Act.put, nm1, nm2, nm3, i64_w]
           refine wpList_plain rfl (fun Ko hKo => ?_)
           go_simp
           refine hKo _ _ ?_
           clear hKo Ko
           try simp only [Act.put, nm1, nm2, nm3, i64_w]
           refine wpList_nil ?_
           (try simp only [Exit.then, Exit.inBlock, ↓reduceIte, Nat.reduceEqDiff])
           refine hK11 _ _ ?_
           refine wp_cond_false rfl ?_
           refine wp_seq_k (fun K14 hK14 => ?_)
           refine wp_region_lit ?_
           refine wpList_plain rfl (fun Ko hKo => ?_)
           go_simp
           refine hKo _ _ ?_
           clear hKo Ko
           try simp only [Act.put, nm1, nm2, nm3, i64_w]
           refine wpList_plain rfl (fun Ko hKo => ?_)
           go_simp
           refine hKo _ _ ?_
           clear hKo Ko
           try simp only [Act.put, nm1, nm2, nm3, i64_w]
           refine wpList_nil ?_
           (try simp only [Exit.then, Exit.inBlock, ↓reduceIte, Nat.reduceEqDiff])
           refine hK14 _ _ ?_
           refine wp_cond_false rfl ?_
           refine wp_seq_k (fun K17 hK17 => ?_)
           refine wp_region_lit ?_
           refine wpList_plain rfl (fun Ko hKo => ?_)
           go_simp
           refine hKo _ _ ?_
           clear hKo Ko
           try simp only [Act.put, nm1, nm2, nm3, i64_w]
           refine wpList_plain rfl (fun Ko hKo => ?_)
           go_simp
           refine hKo _ _ ?_
           clear hKo Ko
           try simp only [Act.put, nm1, nm2, nm3, i64_w]
           refine wpList_nil ?_
           (try simp only [Exit.then, Exit.inBlock, ↓reduceIte, Nat.reduceEqDiff])
           refine hK17 _ _ ?_
           refine wp_cond_false rfl ?_
           refine wp_seq_k (fun K20 hK20 => ?_)
           refine wp_region_lit ?_
           refine wpList_plain rfl (fun Ko hKo => ?_)
           go_simp
           refine hKo _ _ ?_
           clear hKo Ko
           try simp only [Act.put, nm1, nm2, nm3, i64_w]
           refine wpList_plain rfl (fun Ko hKo => ?_)
           go_simp
           refine hKo _ _ ?_
           clear hKo Ko
           try simp only [Act.put, nm1, nm2, nm3, i64_w]
           refine wpList_nil ?_
           (try simp only [Exit.then, Exit.inBlock, ↓reduceIte, Nat.reduceEqDiff])
           refine hK20 _ _ ?_
           refine wp_cond_false rfl ?_
           refine wp_seq_k (fun K23 hK23 => ?_)
           refine wp_region_lit ?_
           refine wpList_plain rfl (fun Ko hKo => ?_)
           go_simp
           refine hKo _ _ ?_
           clear hKo Ko
           try simp only [Act.put, nm1, nm2, nm3, i64_w]
           refine wpList_plain rfl (fun Ko hKo => ?_)
           go_simp
           refine hKo _ _ ?_
           clear hKo Ko
           try simp only [Act.put, nm1, nm2, nm3, i64_w]
           refine wpList_nil ?_
           (try simp only [Exit.then, Exit.inBlock, ↓reduceIte, Nat.reduceEqDiff])
           refine hK23 _ _ ?_
           refine wp_cond_false rfl ?_
           refine wp_seq_k (fun K26 hK26 => ?_)
           refine wp_region_lit ?_
           refine wpList_plain rfl (fun Ko hKo => ?_)
           go_simp
           refine hKo _ _ ?_
           clear hKo Ko
           try simp only [Act.put, nm1, nm2, nm3, i64_w]
           refine wpList_plain rfl (fun Ko hKo => ?_)
           go_simp
           refine hKo _ _ ?_
           clear hKo Ko
           try simp only [Act.put, nm1, nm2, nm3, i64_w]
           refine wpList_nil ?_
           (try simp only [Exit.then, Exit.inBlock, ↓reduceIte, Nat.reduceEqDiff])
           refine hK26 _ _ ?_
           refine wp_cond_false rfl ?_
           refine wp_seq_k (fun K29 hK29 => ?_)
           refine wp_region_lit ?_
           refine wpList_plain rfl (fun Ko hKo => ?_)
           go_simp
           refine hKo _ _ ?_
           clear hKo Ko
           try simp only [Act.put, nm1, nm2, nm3, i64_w]
           refine wpList_plain rfl (fun Ko hKo => ?_)
           go_simp
           refine hKo _ _ ?_
           clear hKo Ko
           try simp only [Act.put, nm1, nm2, nm3, i64_w]
           refine wpList_nil ?_
           (try simp only [Exit.then, Exit.inBlock, ↓reduceIte, Nat.reduceEqDiff])
           refine hK29 _ _ ?_
           refine wp_cond_false rfl ?_
           refine wp_region_lit ?_
           refine wpList_plain rfl (fun Ko hKo => ?_)
           go_simp
           refine hKo _ _ ?_
           clear hKo Ko
           try simp only [Act.put, nm1, nm2, nm3, i64_w]
           refine wpList_plain rfl (fun Ko hKo => ?_)
           go_simp
           refine hKo _ _ ?_
           clear hKo Ko
           try simp only [Act.put, nm1, nm2, nm3, i64_w]
           refine wpList_nil ?_
           (try simp only [Exit.then, Exit.inBlock, ↓reduceIte, Nat.reduceEqDiff])
           refine hK4 _ _ ?_
           refine wp_cond_true rfl ?_
           refine wp_seq_k (fun K33 hK33 => ?_)
           refine wp_region_lit ?_
           refine wpList_plain rfl (fun Ko hKo => ?_)
           go_simp
           refine hKo _ _ ?_
           clear hKo Ko
           try simp only [Act.put, nm1, nm2, nm3, i64_w]
           refine wpList_nil ?_
           (try simp only [Exit.then, Exit.inBlock, ↓reduceIte, Nat.reduceEqDiff])
           refine hK33 _ _ ?_
           refine wp_ret ?_
           (try simp only [Exit.then, Exit.inBlock, ↓reduceIte, Nat.reduceEqDiff])
           refine hQf _ _ _ ?_
           exact bodyPost_ret (v := .bool true) (by first | rfl | (simp [results, Tryd.results16, go_sem]; done) | (simp [results, Tryd.results16, go_sem]; rfl)) rfl ⟨rfl, (Up.refl _)⟩
          ·
           rw [if_neg c32] at H
           replace c32 := Bool.eq_false_iff.mpr c32
           have c32n : (a0 != 31) = true := by rw [bne, c32]; rfl
           have c32p : ¬ a0 = 31 := fun e => by simp [e] at c32
           obtain rfl := Option.some.inj H
           go_enter Tryd.func16, Tryd.ntmps16
           refine wp_hide (fun Qf hQf => ?_)
           refine wp_seq_k (fun K1 hK1 => ?_)
           refine wp_region_lit ?_
           refine wpList_plain rfl (fun Ko hKo => ?_)
           go_simp
           refine hKo _ _ ?_
           clear hKo Ko
           try simp only [Act.put, nm1, nm2, nm3, i64_w]
           refine wpList_nil ?_
           (try simp only [Exit.then, Exit.inBlock, ↓reduceIte, Nat.reduceEqDiff])
           refine hK1 _ _ ?_
           refine wp_seq_k (fun K2 hK2 => ?_)
           refine wp_seq_k (fun K3 hK3 => ?_)
           refine wp_region_lit ?_
           refine wpList_plain rfl (fun Ko hKo => ?_)
           go_simp
           refine hKo _ _ ?_
           clear hKo Ko
           try simp only [Act.put, nm1, nm2, nm3, i64_w]
           refine wpList_nil ?_
           (try simp only [Exit.then, Exit.inBlock, ↓reduceIte, Nat.reduceEqDiff])
           refine hK3 _ _ ?_
           refine wp_block ?_
           refine wp_seq_k (fun K4 hK4 => ?_)
           refine wp_seq_k (fun K5 hK5 => ?_)
           refine wp_region_lit ?_
           refine wpList_plain rfl (fun Ko hKo => ?_)
           go_simp
           refine hKo _ _ ?_
           clear hKo Ko
           try simp only [Act.put, nm1, nm2, nm3, i64_w]
           refine wpList_plain rfl (fun Ko hKo => ?_)
           go_simp
           refine hKo _ _ ?_
           clear hKo Ko
           try simp only [Act.put, nm1, nm2, nm3, i64_w]
           refine wpList_nil ?_
           (try simp only [Exit.then, Exit.inBlock, ↓reduceIte, Nat.reduceEqDiff])
           refine hK5 _ _ ?_
           refine wp_cond_false rfl ?_
           refine wp_seq_k (fun K8 hK8 => ?_)
           refine wp_region_lit ?_
           refine wpList_plain rfl (fun Ko hKo => ?_)
           go_simp
           refine hKo _ _ ?_
           clear hKo Ko
           try simp only [Act.put, nm1, nm2, nm3, i64_w]
           refine wpList_plain rfl (fun Ko hKo => ?_)
           go_simp
           refine hKo _ _ ?_
           clear hKo Ko
           try simp only [Act.put, nm1, nm2, nm3, i64_w]
           refine wpList_nil ?_
           (try simp only [Exit.then, Exit.inBlock, ↓reduceIte, Nat.reduceEqDiff])
           refine hK8 _ _ ?_
           refine wp_cond_false rfl ?_
           refine wp_seq_k (fun K11 hK11 => ?_)
           refine wp_region_lit ?_
           refine wpList_plain rfl (fun Ko hKo => ?_)
           go_simp
           refine hKo _ _ ?_
           clear hKo Ko
           try simp only [Act.put, nm1, nm2, nm3, i64_w]
           refine wpList_plain rfl (fun Ko hKo => ?_)
           go_simp
           refine hKo _ _ ?_
           clear hKo Ko
           try simp only [Act.put, nm1, nm2, nm3, i64_w]
           refine wpList_nil ?_
           (try simp only [Exit.then, Exit.inBlock, ↓reduceIte, Nat.reduceEqDiff])
           refine hK11 _ _ ?_
           refine wp_cond_false rfl ?_
           refine wp_seq_k (fun K14 hK14 => ?_)
           refine wp_region_lit ?_
           refine wpList_plain rfl (fun Ko hKo => ?_)
           go_simp
           refine hKo _ _ ?_
           clear hKo Ko
           try simp only [Act.put, nm1, nm2, nm3, i64_w]
           refine wpList_plain rfl (fun Ko hKo => ?_)
           go_simp
           refine hKo _ _ ?_
           clear hKo Ko
           try simp only [Act.put, nm1, nm2, nm3, i64_w]
           refine wpList_nil ?_
           (try simp only [Exit.then, Exit.inBlock, ↓reduceIte, Nat.reduceEqDiff])
           refine hK14 _ _ ?_
           refine wp_cond_false rfl ?_
           refine wp_seq_k (fun K17 hK17 => ?_)
           refine wp_region_lit ?_
           refine wpList_plain rfl (fun Ko hKo => ?_)
           go_simp
           refine hKo _ _ ?_
           clear hKo Ko
           try simp only [Act.put, nm1, nm2, nm3, i64_w]
           refine wpList_plain rfl (fun Ko hKo => ?_)
           go_simp
           refine hKo _ _ ?_
           clear hKo Ko
           try simp only [Act.put, nm1, nm2, nm3, i64_w]
           refine wpList_nil ?_
           (try simp only [Exit.then, Exit.inBlock, ↓reduceIte, Nat.reduceEqDiff])
           refine hK17 _ _ ?_
           refine wp_cond_false rfl ?_
           refine wp_seq_k (fun K20 hK20 => ?_)
           refine wp_region_lit ?_
           refine wpList_plain rfl (fun Ko hKo => ?_)
           go_simp
           refine hKo _ _ ?_
           clear hKo Ko
           try simp only [Act.put, nm1, nm2, nm3, i64_w]
           refine wpList_plain rfl (fun Ko hKo => ?_)
           go_simp
           refine hKo _ _ ?_
           clear hKo Ko
           try simp only [Act.put, nm1, nm2, nm3, i64_w]
           refine wpList_nil ?_
           (try simp only [Exit.then, Exit.inBlock, ↓reduceIte, Nat.reduceEqDiff])
           refine hK20 _ _ ?_
           refine wp_cond_false rfl ?_
           refine wp_seq_k (fun K23 hK23 => ?_)
           refine wp_region_lit ?_
           refine wpList_plain rfl (fun Ko hKo => ?_)
           go_simp
           refine hKo _ _ ?_
           clear hKo Ko
           try simp only [Act.put, nm1, nm2, nm3, i64_w]
           refine wpList_plain rfl (fun Ko hKo => ?_)
           go_simp
           refine hKo _ _ ?_
           clear hKo Ko
           try simp only [Act.put, nm1, nm2, nm3, i64_w]
           refine wpList_nil ?_
           (try simp only [Exit.then, Exit.inBlock, ↓reduceIte, Nat.reduceEqDiff])
           refine hK23 _ _ ?_
           refine wp_cond_false rfl ?_
           refine wp_seq_k (fun K26 hK26 => ?_)
           refine wp_region_lit ?_
           refine wpList_plain rfl (fun Ko hKo => ?_)
           go_simp
           refine hKo _ _ ?_
           clear hKo Ko
           try simp only [Act.put, nm1, nm2, nm3, i64_w]
           refine wpList_plain rfl (fun Ko hKo => ?_)
           go_simp
           refine hKo _ _ ?_
           clear hKo Ko
           try simp only [Act.put, nm1, nm2, nm3, i64_w]
           refine wpList_nil ?_
           (try simp only [Exit.then, Exit.inBlock, ↓reduceIte, Nat.reduceEqDiff])
           refine hK26 _ _ ?_
           refine wp_cond_false rfl ?_
           refine wp_seq_k (fun K29 hK29 => ?_)
           refine wp_region_lit ?_
           refine wpList_plain rfl (fun Ko hKo => ?_)
           go_simp
           refine hKo _ _ ?_
           clear hKo Ko
           try simp only [Act.put, nm1, nm2, nm3, i64_w]
           refine wpList_plain rfl (fun Ko hKo => ?_)
           go_simp
           refine hKo _ _ ?_
           clear hKo Ko
           try simp only [Act.put, nm1, nm2, nm3, i64_w]
           refine wpList_nil ?_
           (try simp only [Exit.then, Exit.inBlock, ↓reduceIte, Nat.reduceEqDiff])
           refine hK29 _ _ ?_
           refine wp_cond_false rfl ?_
           refine wp_region_lit ?_
           refine wpList_plain rfl (fun Ko hKo => ?_)
           go_simp
           refine hKo _ _ ?_
           clear hKo Ko
           try simp only [Act.put, nm1, nm2, nm3, i64_w]
           refine wpList_plain rfl (fun Ko hKo => ?_)
           go_simp
           refine hKo _ _ ?_
           clear hKo Ko
           try simp only [Act.put, nm1, nm2, nm3, i64_w]
           refine wpList_nil ?_
           (try simp only [Exit.then, Exit.inBlock, ↓reduceIte, Nat.reduceEqDiff])
           refine hK4 _ _ ?_
           refine wp_cond_false rfl ?_
           refine wp_skip ?_
           (try simp only [Exit.then, Exit.inBlock, ↓reduceIte, Nat.reduceEqDiff])
           refine hK2 _ _ ?_
           refine wp_seq_k (fun K34 hK34 => ?_)
           refine wp_region_lit ?_
           refine wpList_plain rfl (fun Ko hKo => ?_)
           go_simp
           refine hKo _ _ ?_
           clear hKo Ko
           try simp only [Act.put, nm1, nm2, nm3, i64_w]
           refine wpList_nil ?_
           (try simp only [Exit.then, Exit.inBlock, ↓reduceIte, Nat.reduceEqDiff])
           refine hK34 _ _ ?_
           refine wp_ret ?_
           (try simp only [Exit.then, Exit.inBlock, ↓reduceIte, Nat.reduceEqDiff])
           refine hQf _ _ _ ?_
           exact bodyPost_ret (v := .bool false) (by first | rfl | (simp [results, Tryd.results16, go_sem]; done) | (simp [results, Tryd.results16, go_sem]; rfl)) rfl ⟨rfl, (Up.refl _)⟩

set_option maxHeartbeats 4000000 in
set_option maxRecDepth 100000 in
theorem impl_isNumber.calls (K : Nat) (a0 : Int) (a1 : Int) (r0 : Bool) (w : World)  (h : impl_isNumber.f K a0 a1 = some (r0)) :
    Calls Tryd.prog 19 #[.int .i64 a0, .int .i64 a1] w fun e w' => e = .returned (.bool r0) ∧ Up w w' := by
 have H : ((if decide (0 ≤ a1) = true then some (decide (a1 < a0)) else some false) : Option (Bool)) = some (r0) := h
 clear h
 by_cases c3 : (decide (0 ≤ a1)) = true
 ·
  rw [if_pos c3] at H
  obtain rfl := Option.some.inj H
  go_enter Tryd.func19, Tryd.ntmps19
  refine wp_hide (fun Qf hQf => ?_)
  refine wp_seq_k (fun K1 hK1 => ?_)
  refine wp_region_lit ?_
  refine wpList_plain rfl (fun Ko hKo => ?_)
  go_simp
  refine hKo _ _ ?_
  clear hKo Ko
  try simp only [Act.put, nm1, nm2, nm3, i64_w]
  refine wpList_nil ?_
  (try simp only [Exit.then, Exit.inBlock, ↓reduceIte, Nat.reduceEqDiff])
  refine hK1 _ _ ?_
  refine wp_seq_k (fun K2 hK2 => ?_)
  refine wp_region_lit ?_
  refine wpList_plain rfl (fun Ko hKo => ?_)
  go_simp
  refine hKo _ _ ?_
  clear hKo Ko
  try simp only [Act.put, nm1, nm2, nm3, i64_w]
  refine wpList_plain rfl (fun Ko hKo => ?_)
  go_simp
  refine hKo _ _ ?_
  clear hKo Ko
  try simp only [Act.put, nm1, nm2, nm3, i64_w]
  refine wpList_plain rfl (fun Ko hKo => ?_)
  go_simp
  refine hKo _ _ ?_
  clear hKo Ko
  try simp only [Act.put, nm1, nm2, nm3, i64_w]
  refine wpList_step (fun Ko hKo => ?_)
  go_simp
  refine hKo _ _ ?_
  clear hKo Ko
  try simp only [Act.put, nm1, nm2, nm3, i64_w]
  refine wpList_step (fun Ko hKo => ?_)
  go_simp
  refine hKo _ _ ?_
  clear hKo Ko
  try simp only [Act.put, nm1, nm2, nm3, i64_w]
  refine wpList_step (fun Ko hKo => ?_)
  go_simp
  refine hKo _ _ ?_
  clear hKo Ko
  try simp only [Act.put, nm1, nm2, nm3, i64_w]
  refine wpList_plain rfl (fun Ko hKo => ?_)
  go_simp
  refine hKo _ _ ?_
  clear hKo Ko
  try simp only [Act.put, nm1, nm2, nm3, i64_w]
  refine wpList_plain rfl (fun Ko hKo => ?_)
  go_simp
  refine hKo _ _ ?_
  clear hKo Ko
  try simp only [Act.put, nm1, nm2, nm3, i64_w]
  refine wpList_nil ?_
  (try simp only [Exit.then, Exit.inBlock, ↓reduceIte, Nat.reduceEqDiff])
  refine hK2 _ _ ?_
  refine wp_ret ?_
  (try simp only [Exit.then, Exit.inBlock, ↓reduceIte, Nat.reduceEqDiff])
  refine hQf _ _ _ ?_
  exact bodyPost_ret (v := .bool (decide (a1 < a0))) (by first | rfl | (simp [results, Tryd.results19, go_sem]; done) | (simp [results, Tryd.results19, go_sem]; rfl)) rfl ⟨rfl, (Up.refl _)⟩
 ·
  rw [if_neg c3] at H
  replace c3 := Bool.eq_false_iff.mpr c3
  obtain rfl := Option.some.inj H
  go_enter Tryd.func19, Tryd.ntmps19
  refine wp_hide (fun Qf hQf => ?_)
  refine wp_seq_k (fun K1 hK1 => ?_)
  refine wp_region_lit ?_
  refine wpList_plain rfl (fun Ko hKo => ?_)
  go_simp
  refine hKo _ _ ?_
  clear hKo Ko
  try simp only [Act.put, nm1, nm2, nm3, i64_w]
  refine wpList_nil ?_
  (try simp only [Exit.then, Exit.inBlock, ↓reduceIte, Nat.reduceEqDiff])
  refine hK1 _ _ ?_
  refine wp_seq_k (fun K2 hK2 => ?_)
  refine wp_region_lit ?_
  refine wpList_plain rfl (fun Ko hKo => ?_)
  go_simp
  refine hKo _ _ ?_
  clear hKo Ko
  try simp only [Act.put, nm1, nm2, nm3, i64_w]
  refine wpList_plain rfl (fun Ko hKo => ?_)
  go_simp
  refine hKo _ _ ?_
  clear hKo Ko
  try simp only [Act.put, nm1, nm2, nm3, i64_w]
  refine wpList_plain rfl (fun Ko hKo => ?_)
  go_simp
  refine hKo _ _ ?_
  clear hKo Ko
  try simp only [Act.put, nm1, nm2, nm3, i64_w]
  refine step_no rfl ?_
  simp only [Act.put, nm1, nm2, nm3, i64_w]
  refine step_no rfl ?_
  simp only [Act.put, nm1, nm2, nm3, i64_w]
  refine step_no rfl ?_
  simp only [Act.put, nm1, nm2, nm3, i64_w]
  refine wpList_plain rfl (fun Ko hKo => ?_)
  go_simp
  refine hKo _ _ ?_
  clear hKo Ko
  try simp only [Act.put, nm1, nm2, nm3, i64_w]
  refine wpList_plain rfl (fun Ko hKo => ?_)
  go_simp
  refine hKo _ _ ?_
  clear hKo Ko
  try simp only [Act.put, nm1, nm2, nm3, i64_w]
  refine wpList_nil ?_
  (try simp only [Exit.then, Exit.inBlock, ↓reduceIte, Nat.reduceEqDiff])
  refine hK2 _ _ ?_
  refine wp_ret ?_
  (try simp only [Exit.then, Exit.inBlock, ↓reduceIte, Nat.reduceEqDiff])
  refine hQf _ _ _ ?_
  exact bodyPost_ret (v := .bool false) (by first | rfl | (simp [results, Tryd.results19, go_sem]; done) | (simp [results, Tryd.results19, go_sem]; rfl)) rfl ⟨rfl, (Up.refl _)⟩

set_option maxHeartbeats 4000000 in
set_option maxRecDepth 100000 in
theorem impl_areNumbers.calls (K : Nat) (a0 : Int) (a1_A : Option Addr) (a1_c : Nat) (a1 : List (Int)) (r0 : Bool) (w : World) (ha1 : Rd eI w a1_A a1) (h : impl_areNumbers.f K a0 a1 = some (r0)) :
    Calls Tryd.prog 17 #[.int .i64 a0, .slice a1_A a1.length a1_c] w fun e w' => e = .returned (.bool r0) ∧ Up w w' := by
 have H : ((impl_areNumbers.l0 K a0 a1 K 0) : Option (Bool)) = some (r0) := h
 clear h
 go_enter Tryd.func17, Tryd.ntmps17
 refine wp_hide (fun Qf hQf => ?_)
 refine wp_seq_k (fun K1 hK1 => ?_)
 refine wp_region_lit ?_
 refine wpList_plain rfl (fun Ko hKo => ?_)
 go_simp
 refine hKo _ _ ?_
 clear hKo Ko
 try simp only [Act.put, nm1, nm2, nm3, i64_w]
 refine wpList_nil ?_
 (try simp only [Exit.then, Exit.inBlock, ↓reduceIte, Nat.reduceEqDiff])
 refine hK1 _ _ ?_
 refine wp_seq_k (fun K2 hK2 => ?_)
 refine wp_seq_k (fun K3 hK3 => ?_)
 refine wp_region_lit ?_
 refine wpList_plain rfl (fun Ko hKo => ?_)
 go_simp
 refine hKo _ _ ?_
 clear hKo Ko
 try simp only [Act.put, nm1, nm2, nm3, i64_w]
 refine wpList_plain rfl (fun Ko hKo => ?_)
 go_simp
 refine hKo _ _ ?_
 clear hKo Ko
 try simp only [Act.put, nm1, nm2, nm3, i64_w]
 refine wpList_plain rfl (fun Ko hKo => ?_)
 go_simp
 refine hKo _ _ ?_
 clear hKo Ko
 try simp only [Act.put, nm1, nm2, nm3, i64_w]
 refine wpList_nil ?_
 (try simp only [Exit.then, Exit.inBlock, ↓reduceIte, Nat.reduceEqDiff])
 refine hK3 _ _ ?_
 refine wp_block ?_
 have HL8 := Aside0.mk H
 clear H
 go_loopg [9] K (fun kq v9 w' => ∃ (x4 : Int), v9 = .int .i64 x4 ∧ Aside0 (impl_areNumbers.l0 K a0 a1 kq x4 = some (r0)) ∧ Aside0 (kq ≤ K) ∧ Aside0 (Up w w') ∧ Aside0 (w.heap.size ≤ w'.heap.size))
 case atStart => exact ⟨0, (by first | rfl | simp), HL8, ⟨Nat.le_refl _⟩, ⟨(Up.refl _)⟩, ⟨Nat.le_refl _⟩⟩
 case round =>
  rename_i J12 K13 hJ12 hK13
  obtain ⟨x4, rfl, HL11, hk10, hu6, hz7⟩ := hrel
  obtain ⟨w5, rfl⟩ : ∃ wo : World, wo = wr := ⟨_, rfl⟩
  obtain ⟨k9, rfl⟩ | rfl : (∃ k, gk = k + 1) ∨ gk = 0 := by rcases gk with _ | k; exact .inr rfl; exact .inl ⟨k, rfl⟩
  case inr => exact absurd HL11.out (by simp [impl_areNumbers.l0])
  have H := HL11.out
  clear HL11
  rw [impl_areNumbers.l0] at H
  by_cases c16 : (decide (x4 < (a1.length : Int))) = true
  ·
   rw [if_pos c16] at H
   replace H := Option.bind_eq_some_iff.mp H
   obtain ⟨t19, A20, H⟩ := H
   replace A20 := Aside0.mk A20
   try dsimp only at H
   replace H := Option.bind_eq_some_iff.mp H
   obtain ⟨t25, A26, H⟩ := H
   replace A26 := Aside0.mk A26
   try dsimp only at H
   by_cases c29 : (t25) = true
   ·
    rw [if_pos c29] at H
    subst c29
    have HL30 := Aside0.mk H
    clear H
    refine wp_seq_k (fun K14 hK14 => ?_)
    refine wp_region_lit ?_
    refine wpList_plain rfl (fun Ko hKo => ?_)
    go_simp
    refine hKo _ _ ?_
    clear hKo Ko
    try simp only [Act.put, nm1, nm2, nm3, i64_w]
    refine wpList_nil ?_
    (try simp only [Exit.then, Exit.inBlock, ↓reduceIte, Nat.reduceEqDiff])
    refine hK14 _ _ ?_
    refine wp_seq_k (fun K15 hK15 => ?_)
    refine wp_cond_true rfl ?_
    refine wp_skip ?_
    (try simp only [Exit.then, Exit.inBlock, ↓reduceIte, Nat.reduceEqDiff])
    refine hK15 _ _ ?_
    refine wp_seq_k (fun K17 hK17 => ?_)
    refine wp_block ?_
    refine wp_seq_k (fun K18 hK18 => ?_)
    refine wp_region_lit ?_
    refine step_index eI (T := 2) (wanted_none rfl) rfl (by kernel_rfl) (by kernel_rfl) rfl rfl rfl (ha1.up hu6.out) A20.out ?_
    intro ad21 hat he
    have he22 := Aside0.mk he
    have hat23 := Aside0.mk hat
    clear he hat
    simp only [Act.put, nm1, nm2, nm3, i64_w]
    have cl0 := he22.out 0 _ rfl
    rw [addr_add0] at cl0
    refine wpList_plain rfl (fun Ko hKo => ?_)
    go_simp
    refine hKo _ _ ?_
    clear hKo Ko
    clear cl0
    try simp only [Act.put, nm1, nm2, nm3, i64_w]
    refine wpList_plain rfl (fun Ko hKo => ?_)
    go_simp
    refine hKo _ _ ?_
    clear hKo Ko
    try simp only [Act.put, nm1, nm2, nm3, i64_w]
    refine wpList_nil ?_
    (try simp only [Exit.then, Exit.inBlock, ↓reduceIte, Nat.reduceEqDiff])
    refine hK18 _ _ ?_
    refine wp_seq_k (fun K24 hK24 => ?_)
    refine wp_region_lit ?_
    refine wpList_plain rfl (fun Ko hKo => ?_)
    go_simp
    refine hKo _ _ ?_
    clear hKo Ko
    try simp only [Act.put, nm1, nm2, nm3, i64_w]
    refine wpList_plain rfl (fun Ko hKo => ?_)
    go_simp
    refine hKo _ _ ?_
    clear hKo Ko
    try simp only [Act.put, nm1, nm2, nm3, i64_w]
    refine step_call (wanted_none rfl) (by first | (go_simp; done) | (go_simp; rfl)) (impl_isNumber.calls K a0 t19 true w5  A26.out) ?_
    rintro e w27 ⟨rfl, hu⟩
    have hu28 := Aside0.mk hu
    clear hu
    refine ⟨_, rfl, ?_⟩
    simp only [Act.put, nm1, nm2, nm3, i64_w]
    refine wpList_plain rfl (fun Ko hKo => ?_)
    go_simp
    refine hKo _ _ ?_
    clear hKo Ko
    try simp only [Act.put, nm1, nm2, nm3, i64_w]
    refine wpList_nil ?_
    (try simp only [Exit.then, Exit.inBlock, ↓reduceIte, Nat.reduceEqDiff])
    refine hK24 _ _ ?_
    refine wp_cond_false rfl ?_
    refine wp_skip ?_
    (try simp only [Exit.then, Exit.inBlock, ↓reduceIte, Nat.reduceEqDiff])
    refine hK17 _ _ ?_
    refine wp_region_lit ?_
    refine wpList_plain rfl (fun Ko hKo => ?_)
    go_simp
    refine hKo _ _ ?_
    clear hKo Ko
    try simp only [Act.put, nm1, nm2, nm3, i64_w]
    refine wpList_plain rfl (fun Ko hKo => ?_)
    go_simp
    refine hKo _ _ ?_
    clear hKo Ko
    try simp only [Act.put, nm1, nm2, nm3, i64_w]
    refine wpList_nil ?_
    (try simp only [Exit.then, Exit.inBlock, ↓reduceIte, Nat.reduceEqDiff])
    refine hK13 _ _ ?_
    go_roundg k9
    case measure => exact Nat.lt_succ_self _
    case rel => exact ⟨wrap64 (x4 + 1), (by first | rfl | simp), HL30, ⟨by have := hk10.out; omega⟩, ⟨(hu6.out.trans hu28.out)⟩, ⟨(Nat.le_trans ((Nat.le_trans (Nat.le_refl _) hz7.out)) hu28.out.size)⟩⟩
   ·
    rw [if_neg c29] at H
    replace c29 := Bool.eq_false_iff.mpr c29
    subst c29
    obtain rfl := Option.some.inj H
    refine wp_seq_k (fun K14 hK14 => ?_)
    refine wp_region_lit ?_
    refine wpList_plain rfl (fun Ko hKo => ?_)
    go_simp
    refine hKo _ _ ?_
    clear hKo Ko
    try simp only [Act.put, nm1, nm2, nm3, i64_w]
    refine wpList_nil ?_
    (try simp only [Exit.then, Exit.inBlock, ↓reduceIte, Nat.reduceEqDiff])
    refine hK14 _ _ ?_
    refine wp_seq_k (fun K15 hK15 => ?_)
    refine wp_cond_true rfl ?_
    refine wp_skip ?_
    (try simp only [Exit.then, Exit.inBlock, ↓reduceIte, Nat.reduceEqDiff])
    refine hK15 _ _ ?_
    refine wp_seq_k (fun K17 hK17 => ?_)
    refine wp_block ?_
    refine wp_seq_k (fun K18 hK18 => ?_)
    refine wp_region_lit ?_
    refine step_index eI (T := 2) (wanted_none rfl) rfl (by kernel_rfl) (by kernel_rfl) rfl rfl rfl (ha1.up hu6.out) A20.out ?_
    intro ad21 hat he
    have he22 := Aside0.mk he
    have hat23 := Aside0.mk hat
    clear he hat
    simp only [Act.put, nm1, nm2, nm3, i64_w]
    have cl0 := he22.out 0 _ rfl
    rw [addr_add0] at cl0
    refine wpList_plain rfl (fun Ko hKo => ?_)
    go_simp
    refine hKo _ _ ?_
    clear hKo Ko
    clear cl0
    try simp only [Act.put, nm1, nm2, nm3, i64_w]
    refine wpList_plain rfl (fun Ko hKo => ?_)
    go_simp
    refine hKo _ _ ?_
    clear hKo Ko
    try simp only [Act.put, nm1, nm2, nm3, i64_w]
    refine wpList_nil ?_
    (try simp only [Exit.then, Exit.inBlock, ↓reduceIte, Nat.reduceEqDiff])
    refine hK18 _ _ ?_
    refine wp_seq_k (fun K24 hK24 => ?_)
    refine wp_region_lit ?_
    refine wpList_plain rfl (fun Ko hKo => ?_)
    go_simp
    refine hKo _ _ ?_
    clear hKo Ko
    try simp only [Act.put, nm1, nm2, nm3, i64_w]
    refine wpList_plain rfl (fun Ko hKo => ?_)
    go_simp
    refine hKo _ _ ?_
    clear hKo Ko
    try simp only [Act.put, nm1, nm2, nm3, i64_w]
    refine step_call (wanted_none rfl) (by first | (go_simp; done) | (go_simp; rfl)) (impl_isNumber.calls K a0 t19 false w5  A26.out) ?_
    rintro e w27 ⟨rfl, hu⟩
    have hu28 := Aside0.mk hu
    clear hu
    refine ⟨_, rfl, ?_⟩
    simp only [Act.put, nm1, nm2, nm3, i64_w]
    refine wpList_plain rfl (fun Ko hKo => ?_)
    go_simp
    refine hKo _ _ ?_
    clear hKo Ko
    try simp only [Act.put, nm1, nm2, nm3, i64_w]
    refine wpList_nil ?_
    (try simp only [Exit.then, Exit.inBlock, ↓reduceIte, Nat.reduceEqDiff])
    refine hK24 _ _ ?_
    refine wp_cond_true rfl ?_
    refine wp_seq_k (fun K31 hK31 => ?_)
    refine wp_region_lit ?_
    refine wpList_plain rfl (fun Ko hKo => ?_)
    go_simp
    refine hKo _ _ ?_
    clear hKo Ko
    try simp only [Act.put, nm1, nm2, nm3, i64_w]
    refine wpList_nil ?_
    (try simp only [Exit.then, Exit.inBlock, ↓reduceIte, Nat.reduceEqDiff])
    refine hK31 _ _ ?_
    refine wp_ret ?_
    (try simp only [Exit.then, Exit.inBlock, ↓reduceIte, Nat.reduceEqDiff])
    refine hQf _ _ _ ?_
    exact bodyPost_ret (v := .bool false) (by first | rfl | (simp [results, Tryd.results17, go_sem]; done) | (simp [results, Tryd.results17, go_sem]; rfl)) rfl ⟨rfl, (hu6.out.trans hu28.out)⟩
  ·
   rw [if_neg c16] at H
   replace c16 := Bool.eq_false_iff.mpr c16
   obtain rfl := Option.some.inj H
   refine wp_seq_k (fun K14 hK14 => ?_)
   refine wp_region_lit ?_
   refine wpList_plain rfl (fun Ko hKo => ?_)
   go_simp
   refine hKo _ _ ?_
   clear hKo Ko
   try simp only [Act.put, nm1, nm2, nm3, i64_w]
   refine wpList_nil ?_
   (try simp only [Exit.then, Exit.inBlock, ↓reduceIte, Nat.reduceEqDiff])
   refine hK14 _ _ ?_
   refine wp_seq_k (fun K15 hK15 => ?_)
   refine wp_cond_false rfl ?_
   refine wp_exit ?_
   (try simp only [Exit.then, Exit.inBlock, ↓reduceIte, Nat.reduceEqDiff])
   refine hK2 _ _ ?_
   refine wp_seq_k (fun K32 hK32 => ?_)
   refine wp_region_lit ?_
   refine wpList_plain rfl (fun Ko hKo => ?_)
   go_simp
   refine hKo _ _ ?_
   clear hKo Ko
   try simp only [Act.put, nm1, nm2, nm3, i64_w]
   refine wpList_nil ?_
   (try simp only [Exit.then, Exit.inBlock, ↓reduceIte, Nat.reduceEqDiff])
   refine hK32 _ _ ?_
   refine wp_ret ?_
   (try simp only [Exit.then, Exit.inBlock, ↓reduceIte, Nat.reduceEqDiff])
   refine hQf _ _ _ ?_
   exact bodyPost_ret (v := .bool true) (by first | rfl | (simp [results, Tryd.results17, go_sem]; done) | (simp [results, Tryd.results17, go_sem]; rfl)) rfl ⟨rfl, hu6.out⟩

set_option maxHeartbeats 4000000 in
set_option maxRecDepth 100000 in
theorem impl_isPoint.calls (K : Nat) (a0 : Int) (a1_0 : Int) (a1_1 : Int) (r0 : Bool) (w : World)  (h : impl_isPoint.f K a0 a1_0 a1_1 = some (r0)) :
    Calls Tryd.prog 11 #[.int .i64 a0, .agg #[.int .i64 a1_0, .int .i64 a1_1]] w fun e w' => e = .returned (.bool r0) ∧ Up w w' := by
 have H : (((impl_areNumbers.f K a0 ([a1_0, a1_1])).bind fun t6 => some t6) : Option (Bool)) = some (r0) := h
 clear h
 replace H := Option.bind_eq_some_iff.mp H
 obtain ⟨t6, A7, H⟩ := H
 replace A7 := Aside0.mk A7
 try dsimp only at H
 obtain rfl := Option.some.inj H
 go_enter Tryd.func11, Tryd.ntmps11
 refine wp_hide (fun Qf hQf => ?_)
 refine wp_seq_k (fun K1 hK1 => ?_)
 refine wp_region_lit ?_
 refine step_new (cs := [.int .i64 a1_0, .int .i64 a1_1]) (T := 24) (f := fun b => .pointer (some ⟨b, 0, none⟩)) rfl (by first | (go_simp; done) | (go_simp; rfl)) ?_
 intro b2 w3 hu lb hb2
 simp only [Act.put, nm1, nm2, nm3, i64_w]
 have lbb2 := Aside0.mk lb
 have ltb2 := Aside0.mk hb2.lt
 clear lb
 have hu4 := Aside0.mk hu
 clear hu
 refine wpList_plain rfl (fun Ko hKo => ?_)
 go_simp
 refine hKo _ _ ?_
 clear hKo Ko
 try simp only [Act.put, nm1, nm2, nm3, i64_w]
 refine wpList_nil ?_
 (try simp only [Exit.then, Exit.inBlock, ↓reduceIte, Nat.reduceEqDiff])
 refine hK1 _ _ ?_
 refine wp_seq_k (fun K5 hK5 => ?_)
 refine wp_region_lit ?_
 refine wpList_plain rfl (fun Ko hKo => ?_)
 go_simp
 refine hKo _ _ ?_
 clear hKo Ko
 try simp only [Act.put, nm1, nm2, nm3, i64_w]
 refine wpList_plain rfl (fun Ko hKo => ?_)
 go_simp
 refine hKo _ _ ?_
 clear hKo Ko
 try simp only [Act.put, nm1, nm2, nm3, i64_w]
 refine step_call (wanted_none rfl) (by first | (go_simp; done) | (go_simp; rfl)) (impl_areNumbers.calls K a0 (some ⟨b2, 0, none⟩) 2 ([a1_0, a1_1]) t6 w3 (Rd.of_blk (E := eI) (xs := [a1_0, a1_1]) (o := 0) hb2 (by simp) (fun j u hu => by rcases j with _ | _ | j <;> simp_all [Enc.flat, eI])) A7.out) ?_
 rintro e w8 ⟨rfl, hu⟩
 have hu9 := Aside0.mk hu
 clear hu
 refine ⟨_, rfl, ?_⟩
 simp only [Act.put, nm1, nm2, nm3, i64_w]
 refine wpList_plain rfl (fun Ko hKo => ?_)
 go_simp
 refine hKo _ _ ?_
 clear hKo Ko
 try simp only [Act.put, nm1, nm2, nm3, i64_w]
 refine wpList_nil ?_
 (try simp only [Exit.then, Exit.inBlock, ↓reduceIte, Nat.reduceEqDiff])
 refine hK5 _ _ ?_
 refine wp_ret ?_
 (try simp only [Exit.then, Exit.inBlock, ↓reduceIte, Nat.reduceEqDiff])
 refine hQf _ _ _ ?_
 exact bodyPost_ret (v := .bool t6) (by first | rfl | (simp [results, Tryd.results11, go_sem]; done) | (simp [results, Tryd.results11, go_sem]; rfl)) rfl ⟨rfl, (hu4.out.trans hu9.out)⟩

set_option maxHeartbeats 4000000 in
set_option maxRecDepth 100000 in
theorem impl_ShiftBy_1.calls (K : Nat) (bf0 : Nat) (f0_0 : Int) (bf1 : Nat) (f1_0 : Int) (f1_1 : Int) (r0 : Bool) (w : World) (hf0 : Blk w bf0 [.int .i64 f0_0] 2) (hf1 : Blk w bf1 [.int .i64 f1_0, .int .i64 f1_1] 24) (h : impl_ShiftBy_1.f K f0_0 f1_0 f1_1 = some (r0)) :
    Calls Tryd.prog 10 #[.pointer (some ⟨bf0, 0, none⟩), .pointer (some ⟨bf1, 0, none⟩)] w fun e w' => e = .returned (.bool r0) ∧ Up w w' := by
 have H : (((impl_isPoint.f K f0_0 f1_0 f1_1).bind fun t3 => some t3) : Option (Bool)) = some (r0) := h
 clear h
 replace H := Option.bind_eq_some_iff.mp H
 obtain ⟨t3, A4, H⟩ := H
 replace A4 := Aside0.mk A4
 try dsimp only at H
 obtain rfl := Option.some.inj H
 have ltbf0 := Aside0.mk hf0.lt
 have ltbf1 := Aside0.mk hf1.lt
 go_enter Tryd.func10, Tryd.ntmps10
 refine wp_hide (fun Qf hQf => ?_)
 refine wp_seq_k (fun K1 hK1 => ?_)
 refine wp_region_lit ?_
 refine wpList_plain rfl (fun Ko hKo => ?_)
 go_simp
 refine hKo _ _ ?_
 clear hKo Ko
 try simp only [Act.put, nm1, nm2, nm3, i64_w]
 refine wpList_nil ?_
 (try simp only [Exit.then, Exit.inBlock, ↓reduceIte, Nat.reduceEqDiff])
 refine hK1 _ _ ?_
 refine wp_seq_k (fun K2 hK2 => ?_)
 refine wp_region_lit ?_
 have cl0 := hf0.cell (o := 0) rfl
 refine wpList_plain rfl (fun Ko hKo => ?_)
 go_simp
 refine hKo _ _ ?_
 clear hKo Ko
 clear cl0
 try simp only [Act.put, nm1, nm2, nm3, i64_w]
 have cl0 := hf1.cell (o := 0) rfl
 have cl1 := hf1.cell (o := 1) rfl
 refine wpList_plain rfl (fun Ko hKo => ?_)
 go_simp
 refine hKo _ _ ?_
 clear hKo Ko
 clear cl0 cl1
 try simp only [Act.put, nm1, nm2, nm3, i64_w]
 refine step_call (wanted_none rfl) (by first | (go_simp; done) | (go_simp; rfl)) (impl_isPoint.calls K f0_0 f1_0 f1_1 t3 w  A4.out) ?_
 rintro e w5 ⟨rfl, hu⟩
 have hu6 := Aside0.mk hu
 clear hu
 refine ⟨_, rfl, ?_⟩
 simp only [Act.put, nm1, nm2, nm3, i64_w]
 refine wpList_plain rfl (fun Ko hKo => ?_)
 go_simp
 refine hKo _ _ ?_
 clear hKo Ko
 try simp only [Act.put, nm1, nm2, nm3, i64_w]
 refine wpList_nil ?_
 (try simp only [Exit.then, Exit.inBlock, ↓reduceIte, Nat.reduceEqDiff])
 refine hK2 _ _ ?_
 refine wp_ret ?_
 (try simp only [Exit.then, Exit.inBlock, ↓reduceIte, Nat.reduceEqDiff])
 refine hQf _ _ _ ?_
 exact bodyPost_ret (v := .bool t3) (by first | rfl | (simp [results, Tryd.results10, go_sem]; done) | (simp [results, Tryd.results10, go_sem]; rfl)) rfl ⟨rfl, hu6.out⟩

set_option maxHeartbeats 4000000 in
set_option maxRecDepth 100000 in
theorem impl_asked__impl_ShiftBy_1.calls (K : Nat) (a0 : Int) (bc1_0 : Nat) (c1_0_0 : Int) (bc1_1 : Nat) (c1_1_0 : Int) (c1_1_1 : Int) (r0 : Int) (w : World) (hc1_0 : Blk w bc1_0 [.int .i64 c1_0_0] 2) (hc1_1 : Blk w bc1_1 [.int .i64 c1_1_0, .int .i64 c1_1_1] 24) (h : impl_asked__impl_ShiftBy_1.f K a0 c1_0_0 c1_1_0 c1_1_1 = some (r0)) :
    Calls Tryd.prog 9 #[.int .i64 a0, .func (.func 10) #[] #[.pointer (some ⟨bc1_0, 0, none⟩), .pointer (some ⟨bc1_1, 0, none⟩)]] w fun e w' => e = .returned (.int .i64 r0) ∧ Up w w' := by
 have H : (((impl_IsField.f K a0).bind fun t4 => (if t4 = true then ((impl_ShiftBy_1.f K c1_0_0 c1_1_0 c1_1_1).bind fun t11 => (if t11 = true then some 0 else some 2)) else some 1)) : Option (Int)) = some (r0) := h
 clear h
 replace H := Option.bind_eq_some_iff.mp H
 obtain ⟨t4, A5, H⟩ := H
 replace A5 := Aside0.mk A5
 try dsimp only at H
 by_cases c8 : (t4) = true
 ·
  rw [if_pos c8] at H
  subst c8
  replace H := Option.bind_eq_some_iff.mp H
  obtain ⟨t11, A12, H⟩ := H
  replace A12 := Aside0.mk A12
  try dsimp only at H
  by_cases c15 : (t11) = true
  ·
   rw [if_pos c15] at H
   subst c15
   obtain rfl := Option.some.inj H
   have ltbc1_0 := Aside0.mk hc1_0.lt
   have ltbc1_1 := Aside0.mk hc1_1.lt
   go_enter Tryd.func9, Tryd.ntmps9
   refine wp_hide (fun Qf hQf => ?_)
   refine wp_seq_k (fun K1 hK1 => ?_)
   refine wp_region_lit ?_
   refine wpList_plain rfl (fun Ko hKo => ?_)
   go_simp
   refine hKo _ _ ?_
   clear hKo Ko
   try simp only [Act.put, nm1, nm2, nm3, i64_w]
   refine wpList_nil ?_
   (try simp only [Exit.then, Exit.inBlock, ↓reduceIte, Nat.reduceEqDiff])
   refine hK1 _ _ ?_
   refine wp_seq_k (fun K2 hK2 => ?_)
   refine wp_seq_k (fun K3 hK3 => ?_)
   refine wp_region_lit ?_
   refine wpList_plain rfl (fun Ko hKo => ?_)
   go_simp
   refine hKo _ _ ?_
   clear hKo Ko
   try simp only [Act.put, nm1, nm2, nm3, i64_w]
   refine step_call (wanted_none rfl) (by first | (go_simp; done) | (go_simp; rfl)) (impl_IsField.calls K a0 true w  A5.out) ?_
   rintro e w6 ⟨rfl, hu⟩
   have hu7 := Aside0.mk hu
   clear hu
   refine ⟨_, rfl, ?_⟩
   simp only [Act.put, nm1, nm2, nm3, i64_w]
   refine wpList_plain rfl (fun Ko hKo => ?_)
   go_simp
   refine hKo _ _ ?_
   clear hKo Ko
   try simp only [Act.put, nm1, nm2, nm3, i64_w]
   refine wpList_nil ?_
   (try simp only [Exit.then, Exit.inBlock, ↓reduceIte, Nat.reduceEqDiff])
   refine hK3 _ _ ?_
   refine wp_cond_false rfl ?_
   refine wp_skip ?_
   (try simp only [Exit.then, Exit.inBlock, ↓reduceIte, Nat.reduceEqDiff])
   refine hK2 _ _ ?_
   refine wp_seq_k (fun K9 hK9 => ?_)
   refine wp_seq_k (fun K10 hK10 => ?_)
   refine wp_region_lit ?_
   refine wpList_plain rfl (fun Ko hKo => ?_)
   go_simp
   refine hKo _ _ ?_
   clear hKo Ko
   try simp only [Act.put, nm1, nm2, nm3, i64_w]
   refine step_call (wanted_none rfl) (by first | (go_simp; done) | (go_simp; rfl)) (impl_ShiftBy_1.calls K bc1_0 c1_0_0 bc1_1 c1_1_0 c1_1_1 true w6 (hc1_0.up hu7.out) (hc1_1.up hu7.out) A12.out) ?_
   rintro e w13 ⟨rfl, hu⟩
   have hu14 := Aside0.mk hu
   clear hu
   refine ⟨_, rfl, ?_⟩
   simp only [Act.put, nm1, nm2, nm3, i64_w]
   refine wpList_plain rfl (fun Ko hKo => ?_)
   go_simp
   refine hKo _ _ ?_
   clear hKo Ko
   try simp only [Act.put, nm1, nm2, nm3, i64_w]
   refine wpList_nil ?_
   (try simp only [Exit.then, Exit.inBlock, ↓reduceIte, Nat.reduceEqDiff])
   refine hK10 _ _ ?_
   refine wp_cond_false rfl ?_
   refine wp_skip ?_
   (try simp only [Exit.then, Exit.inBlock, ↓reduceIte, Nat.reduceEqDiff])
   refine hK9 _ _ ?_
   refine wp_seq_k (fun K16 hK16 => ?_)
   refine wp_region_lit ?_
   refine wpList_plain rfl (fun Ko hKo => ?_)
   go_simp
   refine hKo _ _ ?_
   clear hKo Ko
   try simp only [Act.put, nm1, nm2, nm3, i64_w]
   refine wpList_nil ?_
   (try simp only [Exit.then, Exit.inBlock, ↓reduceIte, Nat.reduceEqDiff])
   refine hK16 _ _ ?_
   refine wp_ret ?_
   (try simp only [Exit.then, Exit.inBlock, ↓reduceIte, Nat.reduceEqDiff])
   refine hQf _ _ _ ?_
   exact bodyPost_ret (v := .int .i64 0) (by first | rfl | (simp [results, Tryd.results9, go_sem]; done) | (simp [results, Tryd.results9, go_sem]; rfl)) rfl ⟨rfl, (hu7.out.trans hu14.out)⟩
  ·
   rw [if_neg c15] at H
   replace c15 := Bool.eq_false_iff.mpr c15
   subst c15
   obtain rfl := Option.some.inj H
   have ltbc1_0 := Aside0.mk hc1_0.lt
   have ltbc1_1 := Aside0.mk hc1_1.lt
   go_enter Tryd.func9, Tryd.ntmps9
   refine wp_hide (fun Qf hQf => ?_)
   refine wp_seq_k (fun K1 hK1 => ?_)
   refine wp_region_lit ?_
   refine wpList_plain rfl (fun Ko hKo => ?_)
   go_simp
   refine hKo _ _ ?_
   clear hKo Ko
   try simp only [Act.put, nm1, nm2, nm3, i64_w]
   refine wpList_nil ?_
   (try simp only [Exit.then, Exit.inBlock, ↓reduceIte, Nat.reduceEqDiff])
   refine hK1 _ _ ?_
   refine wp_seq_k (fun K2 hK2 => ?_)
   refine wp_seq_k (fun K3 hK3 => ?_)
   refine wp_region_lit ?_
   refine wpList_plain rfl (fun Ko hKo => ?_)
   go_simp
   refine hKo _ _ ?_
   clear hKo Ko
   try simp only [Act.put, nm1, nm2, nm3, i64_w]
   refine step_call (wanted_none rfl) (by first | (go_simp; done) | (go_simp; rfl)) (impl_IsField.calls K a0 true w  A5.out) ?_
   rintro e w6 ⟨rfl, hu⟩
   have hu7 := Aside0.mk hu
   clear hu
   refine ⟨_, rfl, ?_⟩
   simp only [Act.put, nm1, nm2, nm3, i64_w]
   refine wpList_plain rfl (fun Ko hKo => ?_)
   go_simp
   refine hKo _ _ ?_
   clear hKo Ko
   try simp only [Act.put, nm1, nm2, nm3, i64_w]
   refine wpList_nil ?_
   (try simp only [Exit.then, Exit.inBlock, ↓reduceIte, Nat.reduceEqDiff])
   refine hK3 _ _ ?_
   refine wp_cond_false rfl ?_
   refine wp_skip ?_
   (try simp only [Exit.then, Exit.inBlock, ↓reduceIte, Nat.reduceEqDiff])
   refine hK2 _ _ ?_
   refine wp_seq_k (fun K9 hK9 => ?_)
   refine wp_seq_k (fun K10 hK10 => ?_)
   refine wp_region_lit ?_
   refine wpList_plain rfl (fun Ko hKo => ?_)
   go_simp
   refine hKo _ _ ?_
   clear hKo Ko
   try simp only [Act.put, nm1, nm2, nm3, i64_w]
   refine step_call (wanted_none rfl) (by first | (go_simp; done) | (go_simp; rfl)) (impl_ShiftBy_1.calls K bc1_0 c1_0_0 bc1_1 c1_1_0 c1_1_1 false w6 (hc1_0.up hu7.out) (hc1_1.up hu7.out) A12.out) ?_
   rintro e w13 ⟨rfl, hu⟩
   have hu14 := Aside0.mk hu
   clear hu
   refine ⟨_, rfl, ?_⟩
   simp only [Act.put, nm1, nm2, nm3, i64_w]
   refine wpList_plain rfl (fun Ko hKo => ?_)
   go_simp
   refine hKo _ _ ?_
   clear hKo Ko
   try simp only [Act.put, nm1, nm2, nm3, i64_w]
   refine wpList_nil ?_
   (try simp only [Exit.then, Exit.inBlock, ↓reduceIte, Nat.reduceEqDiff])
   refine hK10 _ _ ?_
   refine wp_cond_true rfl ?_
   refine wp_seq_k (fun K17 hK17 => ?_)
   refine wp_region_lit ?_
   refine wpList_plain rfl (fun Ko hKo => ?_)
   go_simp
   refine hKo _ _ ?_
   clear hKo Ko
   try simp only [Act.put, nm1, nm2, nm3, i64_w]
   refine wpList_nil ?_
   (try simp only [Exit.then, Exit.inBlock, ↓reduceIte, Nat.reduceEqDiff])
   refine hK17 _ _ ?_
   refine wp_ret ?_
   (try simp only [Exit.then, Exit.inBlock, ↓reduceIte, Nat.reduceEqDiff])
   refine hQf _ _ _ ?_
   exact bodyPost_ret (v := .int .i64 2) (by first | rfl | (simp [results, Tryd.results9, go_sem]; done) | (simp [results, Tryd.results9, go_sem]; rfl)) rfl ⟨rfl, (hu7.out.trans hu14.out)⟩
 ·
  rw [if_neg c8] at H
  replace c8 := Bool.eq_false_iff.mpr c8
  subst c8
  obtain rfl := Option.some.inj H
  have ltbc1_0 := Aside0.mk hc1_0.lt
  have ltbc1_1 := Aside0.mk hc1_1.lt
  go_enter Tryd.func9, Tryd.ntmps9
  refine wp_hide (fun Qf hQf => ?_)
  refine wp_seq_k (fun K1 hK1 => ?_)
  refine wp_region_lit ?_
  refine wpList_plain rfl (fun Ko hKo => ?_)
  go_simp
  refine hKo _ _ ?_
  clear hKo Ko
  try simp only [Act.put, nm1, nm2, nm3, i64_w]
  refine wpList_nil ?_
  (try simp only [Exit.then, Exit.inBlock, ↓reduceIte, Nat.reduceEqDiff])
  refine hK1 _ _ ?_
  refine wp_seq_k (fun K2 hK2 => ?_)
  refine wp_seq_k (fun K3 hK3 => ?_)
  refine wp_region_lit ?_
  refine wpList_plain rfl (fun Ko hKo => ?_)
  go_simp
  refine hKo _ _ ?_
  clear hKo Ko
  try simp only [Act.put, nm1, nm2, nm3, i64_w]
  refine step_call (wanted_none rfl) (by first | (go_simp; done) | (go_simp; rfl)) (impl_IsField.calls K a0 false w  A5.out) ?_
  rintro e w6 ⟨rfl, hu⟩
  have hu7 := Aside0.mk hu
  clear hu
  refine ⟨_, rfl, ?_⟩
  simp only [Act.put, nm1, nm2, nm3, i64_w]
  refine wpList_plain rfl (fun Ko hKo => ?_)
  go_simp
  refine hKo _ _ ?_
  clear hKo Ko
  try simp only [Act.put, nm1, nm2, nm3, i64_w]
  refine wpList_nil ?_
  (try simp only [Exit.then, Exit.inBlock, ↓reduceIte, Nat.reduceEqDiff])
  refine hK3 _ _ ?_
  refine wp_cond_true rfl ?_
  refine wp_seq_k (fun K18 hK18 => ?_)
  refine wp_region_lit ?_
  refine wpList_plain rfl (fun Ko hKo => ?_)
  go_simp
  refine hKo _ _ ?_
  clear hKo Ko
  try simp only [Act.put, nm1, nm2, nm3, i64_w]
  refine wpList_nil ?_
  (try simp only [Exit.then, Exit.inBlock, ↓reduceIte, Nat.reduceEqDiff])
  refine hK18 _ _ ?_
  refine wp_ret ?_
  (try simp only [Exit.then, Exit.inBlock, ↓reduceIte, Nat.reduceEqDiff])
  refine hQf _ _ _ ?_
  exact bodyPost_ret (v := .int .i64 1) (by first | rfl | (simp [results, Tryd.results9, go_sem]; done) | (simp [results, Tryd.results9, go_sem]; rfl)) rfl ⟨rfl, hu7.out⟩

set_option maxHeartbeats 4000000 in
set_option maxRecDepth 100000 in
theorem impl_ShiftBy.calls (K : Nat) (a0 : Int) (a1_0 : Int) (a1_1 : Int) (r0 : Int) (r1 : Int) (r2 : Int) (r3 : Int) (r4 : Int) (r5 : Int) (r6 : Int) (w : World) (hg0 : Gv w 0 [.int .i64 1, .int .i64 0, .int .i64 0, .int .i64 1]) (h : impl_ShiftBy.f K a0 a1_0 a1_1 = some (r0, r1, r2, r3, r4, r5, r6)) :
    Calls Tryd.prog 6 #[.int .i64 a0, .agg #[.int .i64 a1_0, .int .i64 a1_1]] w fun e w' => e = .returned (.tuple #[.agg #[.int .i64 r0, .int .i64 r1, .int .i64 r2, .int .i64 r3, .int .i64 r4, .int .i64 r5], .int .i64 r6]) ∧ Up w w' := by
 have H : (((impl_asked__impl_ShiftBy_1.f K a0 a0 a1_0 a1_1).bind fun t13 => (if (t13 == 0) = true then some (1, 0, 0, 1, a1_0, a1_1, 0) else some (0, 0, 0, 0, 0, 0, t13))) : Option (Int × Int × Int × Int × Int × Int × Int)) = some (r0, r1, r2, r3, r4, r5, r6) := h
 clear h
 replace H := Option.bind_eq_some_iff.mp H
 obtain ⟨t13, A14, H⟩ := H
 replace A14 := Aside0.mk A14
 try dsimp only at H
 by_cases c18 : (t13 == 0) = true
 ·
  rw [if_pos c18] at H
  have c18n : (t13 != 0) = false := by rw [bne, c18]; rfl
  simp only [Option.some.injEq, Prod.mk.injEq] at H
  obtain ⟨rfl, rfl, rfl, rfl, rfl, rfl, rfl⟩ := H
  have ltg0 := Aside0.mk hg0.lt
  go_enter Tryd.func6, Tryd.ntmps6
  refine wp_hide (fun Qf hQf => ?_)
  refine wp_seq_k (fun K1 hK1 => ?_)
  refine wp_region_lit ?_
  refine step_new (cs := [.int .i64 a0]) (T := 2) (f := fun b => .pointer (some ⟨b, 0, none⟩)) rfl (by first | (go_simp; done) | (go_simp; rfl)) ?_
  intro b2 w3 hu lb hb2
  simp only [Act.put, nm1, nm2, nm3, i64_w]
  have lbb2 := Aside0.mk lb
  have ltb2 := Aside0.mk hb2.lt
  clear lb
  have hu4 := Aside0.mk hu
  clear hu
  refine step_new (cs := [.int .i64 a1_0, .int .i64 a1_1]) (T := 24) (f := fun b => .pointer (some ⟨b, 0, none⟩)) rfl (by first | (go_simp; done) | (go_simp; rfl)) ?_
  intro b5 w6 hu lb hb5
  simp only [Act.put, nm1, nm2, nm3, i64_w]
  have lbb5 := Aside0.mk lb
  have ltb5 := Aside0.mk hb5.lt
  clear lb
  have hu7 := Aside0.mk hu
  clear hu
  refine step_new (cs := [.int .i64 0, .int .i64 0, .int .i64 0, .int .i64 0, .int .i64 0, .int .i64 0]) (T := 26) (f := fun b => .pointer (some ⟨b, 0, none⟩)) rfl (by first | (go_simp; done) | (go_simp; rfl)) ?_
  intro b8 w9 hu lb hb8
  simp only [Act.put, nm1, nm2, nm3, i64_w]
  have lbb8 := Aside0.mk lb
  have ltb8 := Aside0.mk hb8.lt
  clear lb
  have hu10 := Aside0.mk hu
  clear hu
  refine wpList_plain rfl (fun Ko hKo => ?_)
  go_simp
  refine hKo _ _ ?_
  clear hKo Ko
  try simp only [Act.put, nm1, nm2, nm3, i64_w]
  refine wpList_nil ?_
  (try simp only [Exit.then, Exit.inBlock, ↓reduceIte, Nat.reduceEqDiff])
  refine hK1 _ _ ?_
  refine wp_seq_k (fun K11 hK11 => ?_)
  refine wp_seq_k (fun K12 hK12 => ?_)
  refine wp_region_lit ?_
  have cl0 := (hb2.up (hu7.out.trans hu10.out)).cell (o := 0) rfl
  refine wpList_plain rfl (fun Ko hKo => ?_)
  go_simp
  refine hKo _ _ ?_
  clear hKo Ko
  clear cl0
  try simp only [Act.put, nm1, nm2, nm3, i64_w]
  refine wpList_plain rfl (fun Ko hKo => ?_)
  go_simp
  refine hKo _ _ ?_
  clear hKo Ko
  try simp only [Act.put, nm1, nm2, nm3, i64_w]
  refine step_call (wanted_none rfl) (by first | (go_simp; done) | (go_simp; rfl)) (impl_asked__impl_ShiftBy_1.calls K a0 b2 a0 b5 a1_0 a1_1 t13 w9 (hb2.up (hu7.out.trans hu10.out)) (hb5.up hu10.out) A14.out) ?_
  rintro e w15 ⟨rfl, hu⟩
  have hu16 := Aside0.mk hu
  clear hu
  refine ⟨_, rfl, ?_⟩
  simp only [Act.put, nm1, nm2, nm3, i64_w]
  refine wpList_plain rfl (fun Ko hKo => ?_)
  go_simp
  refine hKo _ _ ?_
  clear hKo Ko
  try simp only [Act.put, nm1, nm2, nm3, i64_w]
  refine wpList_nil ?_
  (try simp only [Exit.then, Exit.inBlock, ↓reduceIte, Nat.reduceEqDiff])
  refine hK12 _ _ ?_
  refine wp_seq_k (fun K17 hK17 => ?_)
  refine wp_region_lit ?_
  refine wpList_plain rfl (fun Ko hKo => ?_)
  go_simp
  refine hKo _ _ ?_
  clear hKo Ko
  try simp only [Act.put, nm1, nm2, nm3, i64_w]
  refine wpList_plain rfl (fun Ko hKo => ?_)
  go_simp
  refine hKo _ _ ?_
  clear hKo Ko
  try simp only [Act.put, nm1, nm2, nm3, i64_w]
  refine wpList_nil ?_
  (try simp only [Exit.then, Exit.inBlock, ↓reduceIte, Nat.reduceEqDiff])
  refine hK17 _ _ ?_
  refine wp_cond_false rfl ?_
  refine wp_skip ?_
  (try simp only [Exit.then, Exit.inBlock, ↓reduceIte, Nat.reduceEqDiff])
  refine hK11 _ _ ?_
  refine wp_seq_k (fun K19 hK19 => ?_)
  refine wp_region_lit ?_
  have cl0 := (hg0.up (((hu4.out.trans hu7.out).trans hu10.out).trans hu16.out)).cell (o := 0) rfl
  have cl1 := (hg0.up (((hu4.out.trans hu7.out).trans hu10.out).trans hu16.out)).cell (o := 1) rfl
  have cl2 := (hg0.up (((hu4.out.trans hu7.out).trans hu10.out).trans hu16.out)).cell (o := 2) rfl
  have cl3 := (hg0.up (((hu4.out.trans hu7.out).trans hu10.out).trans hu16.out)).cell (o := 3) rfl
  refine wpList_plain rfl (fun Ko hKo => ?_)
  go_simp
  refine hKo _ _ ?_
  clear hKo Ko
  clear cl0 cl1 cl2 cl3
  try simp only [Act.put, nm1, nm2, nm3, i64_w]
  have cl0 := (hb5.up (hu10.out.trans hu16.out)).cell (o := 0) rfl
  have cl1 := (hb5.up (hu10.out.trans hu16.out)).cell (o := 1) rfl
  refine wpList_plain rfl (fun Ko hKo => ?_)
  go_simp
  refine hKo _ _ ?_
  clear hKo Ko
  clear cl0 cl1
  try simp only [Act.put, nm1, nm2, nm3, i64_w]
  refine wpList_plain rfl (fun Ko hKo => ?_)
  go_simp
  refine hKo _ _ ?_
  clear hKo Ko
  try simp only [Act.put, nm1, nm2, nm3, i64_w]
  have hB0 := (hb8.up hu16.out)
  have cl0 := hB0.cell (o := 0) rfl
  have fr0 := hB0.free 0
  have cl1 := hB0.cell (o := 1) rfl
  have fr1 := hB0.free 1
  have cl2 := hB0.cell (o := 2) rfl
  have fr2 := hB0.free 2
  have cl3 := hB0.cell (o := 3) rfl
  have fr3 := hB0.free 3
  have cl4 := hB0.cell (o := 4) rfl
  have fr4 := hB0.free 4
  have cl5 := hB0.cell (o := 5) rfl
  have fr5 := hB0.free 5
  refine step_store (b := b8) (cs' := [.int .i64 1, .int .i64 0, .int .i64 0, .int .i64 1, .int .i64 a1_0, .int .i64 a1_1]) (T := 26) (W' := ((((((w15.setCell ⟨b8, 0, none⟩ (.int .i64 1)).setCell ⟨b8, 1, none⟩ (.int .i64 0)).setCell ⟨b8, 2, none⟩ (.int .i64 0)).setCell ⟨b8, 3, none⟩ (.int .i64 1)).setCell ⟨b8, 4, none⟩ (.int .i64 a1_0)).setCell ⟨b8, 5, none⟩ (.int .i64 a1_1))) rfl rfl (by first | (go_simp; done) | (go_simp; rfl)) (((((((Sto.refl _ _).setCell 0 _).setCell 1 _).setCell 2 _).setCell 3 _).setCell 4 _).setCell 5 _) (((((((hB0).setCell 0 _).setCell 1 _).setCell 2 _).setCell 3 _).setCell 4 _).setCell 5 _) ?_
  clear hB0 cl0 fr0 cl1 fr1 cl2 fr2 cl3 fr3 cl4 fr4 cl5 fr5
  intro w20 hs hb22
  have hs21 := Aside0.mk hs
  clear hs
  refine wpList_plain rfl (fun Ko hKo => ?_)
  go_simp
  refine hKo _ _ ?_
  clear hKo Ko
  try simp only [Act.put, nm1, nm2, nm3, i64_w]
  refine wpList_nil ?_
  (try simp only [Exit.then, Exit.inBlock, ↓reduceIte, Nat.reduceEqDiff])
  refine hK19 _ _ ?_
  refine wp_ret ?_
  (try simp only [Exit.then, Exit.inBlock, ↓reduceIte, Nat.reduceEqDiff])
  refine hQf _ _ _ ?_
  have cr0 := hb22.cell (o := 0) rfl
  have cr1 := hb22.cell (o := 1) rfl
  have cr2 := hb22.cell (o := 2) rfl
  have cr3 := hb22.cell (o := 3) rfl
  have cr4 := hb22.cell (o := 4) rfl
  have cr5 := hb22.cell (o := 5) rfl
  exact bodyPost_ret (v := .tuple #[.agg #[.int .i64 1, .int .i64 0, .int .i64 0, .int .i64 1, .int .i64 a1_0, .int .i64 a1_1], .int .i64 0]) (by first | rfl | (simp [results, Tryd.results6, go_sem, cr0, cr1, cr2, cr3, cr4, cr5]; done) | (simp [results, Tryd.results6, go_sem, cr0, cr1, cr2, cr3, cr4, cr5]; rfl)) rfl ⟨rfl, ((((hu4.out.trans hu7.out).trans hu10.out).trans hu16.out).sto (Nat.le_trans ((Nat.le_trans (hu4.out.size) hu7.out.size)) lbb8.out) hs21.out)⟩
 ·
  rw [if_neg c18] at H
  replace c18 := Bool.eq_false_iff.mpr c18
  have c18n : (t13 != 0) = true := by rw [bne, c18]; rfl
  have c18p : ¬ t13 = 0 := fun e => by simp [e] at c18
  simp only [Option.some.injEq, Prod.mk.injEq] at H
  obtain ⟨rfl, rfl, rfl, rfl, rfl, rfl, rfl⟩ := H
  have ltg0 := Aside0.mk hg0.lt
  go_enter Tryd.func6, Tryd.ntmps6
  refine wp_hide (fun Qf hQf => ?_)
  refine wp_seq_k (fun K1 hK1 => ?_)
  refine wp_region_lit ?_
  refine step_new (cs := [.int .i64 a0]) (T := 2) (f := fun b => .pointer (some ⟨b, 0, none⟩)) rfl (by first | (go_simp; done) | (go_simp; rfl)) ?_
  intro b2 w3 hu lb hb2
  simp only [Act.put, nm1, nm2, nm3, i64_w]
  have lbb2 := Aside0.mk lb
  have ltb2 := Aside0.mk hb2.lt
  clear lb
  have hu4 := Aside0.mk hu
  clear hu
  refine step_new (cs := [.int .i64 a1_0, .int .i64 a1_1]) (T := 24) (f := fun b => .pointer (some ⟨b, 0, none⟩)) rfl (by first | (go_simp; done) | (go_simp; rfl)) ?_
  intro b5 w6 hu lb hb5
  simp only [Act.put, nm1, nm2, nm3, i64_w]
  have lbb5 := Aside0.mk lb
  have ltb5 := Aside0.mk hb5.lt
  clear lb
  have hu7 := Aside0.mk hu
  clear hu
  refine step_new (cs := [.int .i64 0, .int .i64 0, .int .i64 0, .int .i64 0, .int .i64 0, .int .i64 0]) (T := 26) (f := fun b => .pointer (some ⟨b, 0, none⟩)) rfl (by first | (go_simp; done) | (go_simp; rfl)) ?_
  intro b8 w9 hu lb hb8
  simp only [Act.put, nm1, nm2, nm3, i64_w]
  have lbb8 := Aside0.mk lb
  have ltb8 := Aside0.mk hb8.lt
  clear lb
  have hu10 := Aside0.mk hu
  clear hu
  refine wpList_plain rfl (fun Ko hKo => ?_)
  go_simp
  refine hKo _ _ ?_
  clear hKo Ko
  try simp only [Act.put, nm1, nm2, nm3, i64_w]
  refine wpList_nil ?_
  (try simp only [Exit.then, Exit.inBlock, ↓reduceIte, Nat.reduceEqDiff])
  refine hK1 _ _ ?_
  refine wp_seq_k (fun K11 hK11 => ?_)
  refine wp_seq_k (fun K12 hK12 => ?_)
  refine wp_region_lit ?_
  have cl0 := (hb2.up (hu7.out.trans hu10.out)).cell (o := 0) rfl
  refine wpList_plain rfl (fun Ko hKo => ?_)
  go_simp
  refine hKo _ _ ?_
  clear hKo Ko
  clear cl0
  try simp only [Act.put, nm1, nm2, nm3, i64_w]
  refine wpList_plain rfl (fun Ko hKo => ?_)
  go_simp
  refine hKo _ _ ?_
  clear hKo Ko
  try simp only [Act.put, nm1, nm2, nm3, i64_w]
  refine step_call (wanted_none rfl) (by first | (go_simp; done) | (go_simp; rfl)) (impl_asked__impl_ShiftBy_1.calls K a0 b2 a0 b5 a1_0 a1_1 t13 w9 (hb2.up (hu7.out.trans hu10.out)) (hb5.up hu10.out) A14.out) ?_
  rintro e w15 ⟨rfl, hu⟩
  have hu16 := Aside0.mk hu
  clear hu
  refine ⟨_, rfl, ?_⟩
  simp only [Act.put, nm1, nm2, nm3, i64_w]
  refine wpList_plain rfl (fun Ko hKo => ?_)
  go_simp
  refine hKo _ _ ?_
  clear hKo Ko
  try simp only [Act.put, nm1, nm2, nm3, i64_w]
  refine wpList_nil ?_
  (try simp only [Exit.then, Exit.inBlock, ↓reduceIte, Nat.reduceEqDiff])
  refine hK12 _ _ ?_
  refine wp_seq_k (fun K17 hK17 => ?_)
  refine wp_region_lit ?_
  refine wpList_plain rfl (fun Ko hKo => ?_)
  go_simp
  refine hKo _ _ ?_
  clear hKo Ko
  try simp only [Act.put, nm1, nm2, nm3, i64_w]
  refine wpList_plain rfl (fun Ko hKo => ?_)
  go_simp
  refine hKo _ _ ?_
  clear hKo Ko
  try simp only [Act.put, nm1, nm2, nm3, i64_w]
  refine wpList_nil ?_
  (try simp only [Exit.then, Exit.inBlock, ↓reduceIte, Nat.reduceEqDiff])
  refine hK17 _ _ ?_
  refine wp_cond_true rfl ?_
  refine wp_seq_k (fun K23 hK23 => ?_)
  refine wp_region_lit ?_
  refine wpList_plain rfl (fun Ko hKo => ?_)
  go_simp
  refine hKo _ _ ?_
  clear hKo Ko
  try simp only [Act.put, nm1, nm2, nm3, i64_w]
  refine wpList_plain rfl (fun Ko hKo => ?_)
  go_simp
  refine hKo _ _ ?_
  clear hKo Ko
  try simp only [Act.put, nm1, nm2, nm3, i64_w]
  have hB0 := (hb8.up hu16.out)
  have cl0 := hB0.cell (o := 0) rfl
  have fr0 := hB0.free 0
  have cl1 := hB0.cell (o := 1) rfl
  have fr1 := hB0.free 1
  have cl2 := hB0.cell (o := 2) rfl
  have fr2 := hB0.free 2
  have cl3 := hB0.cell (o := 3) rfl
  have fr3 := hB0.free 3
  have cl4 := hB0.cell (o := 4) rfl
  have fr4 := hB0.free 4
  have cl5 := hB0.cell (o := 5) rfl
  have fr5 := hB0.free 5
  refine step_store (b := b8) (cs' := [.int .i64 0, .int .i64 0, .int .i64 0, .int .i64 0, .int .i64 0, .int .i64 0]) (T := 26) (W' := ((((((w15.setCell ⟨b8, 0, none⟩ (.int .i64 0)).setCell ⟨b8, 1, none⟩ (.int .i64 0)).setCell ⟨b8, 2, none⟩ (.int .i64 0)).setCell ⟨b8, 3, none⟩ (.int .i64 0)).setCell ⟨b8, 4, none⟩ (.int .i64 0)).setCell ⟨b8, 5, none⟩ (.int .i64 0))) rfl rfl (by first | (go_simp; done) | (go_simp; rfl)) (((((((Sto.refl _ _).setCell 0 _).setCell 1 _).setCell 2 _).setCell 3 _).setCell 4 _).setCell 5 _) (((((((hB0).setCell 0 _).setCell 1 _).setCell 2 _).setCell 3 _).setCell 4 _).setCell 5 _) ?_
  clear hB0 cl0 fr0 cl1 fr1 cl2 fr2 cl3 fr3 cl4 fr4 cl5 fr5
  intro w24 hs hb26
  have hs25 := Aside0.mk hs
  clear hs
  refine wpList_plain rfl (fun Ko hKo => ?_)
  go_simp
  refine hKo _ _ ?_
  clear hKo Ko
  try simp only [Act.put, nm1, nm2, nm3, i64_w]
  refine wpList_nil ?_
  (try simp only [Exit.then, Exit.inBlock, ↓reduceIte, Nat.reduceEqDiff])
  refine hK23 _ _ ?_
  refine wp_ret ?_
  (try simp only [Exit.then, Exit.inBlock, ↓reduceIte, Nat.reduceEqDiff])
  refine hQf _ _ _ ?_
  have cr0 := hb26.cell (o := 0) rfl
  have cr1 := hb26.cell (o := 1) rfl
  have cr2 := hb26.cell (o := 2) rfl
  have cr3 := hb26.cell (o := 3) rfl
  have cr4 := hb26.cell (o := 4) rfl
  have cr5 := hb26.cell (o := 5) rfl
  exact bodyPost_ret (v := .tuple #[.agg #[.int .i64 0, .int .i64 0, .int .i64 0, .int .i64 0, .int .i64 0, .int .i64 0], .int .i64 t13]) (by first | rfl | (simp [results, Tryd.results6, go_sem, cr0, cr1, cr2, cr3, cr4, cr5]; done) | (simp [results, Tryd.results6, go_sem, cr0, cr1, cr2, cr3, cr4, cr5]; rfl)) rfl ⟨rfl, ((((hu4.out.trans hu7.out).trans hu10.out).trans hu16.out).sto (Nat.le_trans ((Nat.le_trans (hu4.out.size) hu7.out.size)) lbb8.out) hs25.out)⟩

set_option maxHeartbeats 4000000 in
set_option maxRecDepth 100000 in
theorem laws_eqInt64A4.calls (K : Nat) (a0_0 : Int) (a0_1 : Int) (a0_2 : Int) (a0_3 : Int) (a1_0 : Int) (a1_1 : Int) (a1_2 : Int) (a1_3 : Int) (r0 : Bool) (w : World)  (h : laws_eqInt64A4.f K a0_0 a0_1 a0_2 a0_3 a1_0 a1_1 a1_2 a1_3 = some (r0)) :
    Calls Tryd.prog 12 #[.agg #[.int .i64 a0_0, .int .i64 a0_1, .int .i64 a0_2, .int .i64 a0_3], .agg #[.int .i64 a1_0, .int .i64 a1_1, .int .i64 a1_2, .int .i64 a1_3]] w fun e w' => e = .returned (.bool r0) ∧ Up w w' := by
 have H : ((if (a0_0 == a1_0) = true then (if (a0_1 == a1_1) = true then (if (a0_2 == a1_2) = true then (if (a0_3 == a1_3) = true then some true else some false) else some false) else some false) else some false) : Option (Bool)) = some (r0) := h
 clear h
 by_cases c17 : (a0_0 == a1_0) = true
 ·
  rw [if_pos c17] at H
  have c17n : (a0_0 != a1_0) = false := by rw [bne, c17]; rfl
  by_cases c25 : (a0_1 == a1_1) = true
  ·
   rw [if_pos c25] at H
   have c25n : (a0_1 != a1_1) = false := by rw [bne, c25]; rfl
   by_cases c33 : (a0_2 == a1_2) = true
   ·
    rw [if_pos c33] at H
    have c33n : (a0_2 != a1_2) = false := by rw [bne, c33]; rfl
    by_cases c41 : (a0_3 == a1_3) = true
    ·
     rw [if_pos c41] at H
     have c41n : (a0_3 != a1_3) = false := by rw [bne, c41]; rfl
     obtain rfl := Option.some.inj H
     go_enter Tryd.func12, Tryd.ntmps12
     refine wp_hide (fun Qf hQf => ?_)
     refine wp_seq_k (fun K1 hK1 => ?_)
     refine wp_region_lit ?_
     refine step_new (cs := [.int .i64 a0_0, .int .i64 a0_1, .int .i64 a0_2, .int .i64 a0_3]) (T := 23) (f := fun b => .pointer (some ⟨b, 0, none⟩)) rfl (by first | (go_simp; done) | (go_simp; rfl)) ?_
     intro b2 w3 hu lb hb2
     simp only [Act.put, nm1, nm2, nm3, i64_w]
     have lbb2 := Aside0.mk lb
     have ltb2 := Aside0.mk hb2.lt
     clear lb
     have hu4 := Aside0.mk hu
     clear hu
     refine step_new (cs := [.int .i64 a1_0, .int .i64 a1_1, .int .i64 a1_2, .int .i64 a1_3]) (T := 23) (f := fun b => .pointer (some ⟨b, 0, none⟩)) rfl (by first | (go_simp; done) | (go_simp; rfl)) ?_
     intro b5 w6 hu lb hb5
     simp only [Act.put, nm1, nm2, nm3, i64_w]
     have lbb5 := Aside0.mk lb
     have ltb5 := Aside0.mk hb5.lt
     clear lb
     have hu7 := Aside0.mk hu
     clear hu
     refine wpList_plain rfl (fun Ko hKo => ?_)
     go_simp
     refine hKo _ _ ?_
     clear hKo Ko
     try simp only [Act.put, nm1, nm2, nm3, i64_w]
     refine wpList_nil ?_
     (try simp only [Exit.then, Exit.inBlock, ↓reduceIte, Nat.reduceEqDiff])
     refine hK1 _ _ ?_
     refine wp_seq_k (fun K8 hK8 => ?_)
     refine wp_seq_k (fun K9 hK9 => ?_)
     refine wp_region_lit ?_
     refine wpList_plain rfl (fun Ko hKo => ?_)
     go_simp
     refine hKo _ _ ?_
     clear hKo Ko
     try simp only [Act.put, nm1, nm2, nm3, i64_w]
     refine wpList_nil ?_
     (try simp only [Exit.then, Exit.inBlock, ↓reduceIte, Nat.reduceEqDiff])
     refine hK9 _ _ ?_
     refine wp_block ?_
     refine wp_loop_rounds 40 ?_
     refine rounds_k (fun K10 hK10 => ?_)
     refine wp_seq_k (fun K11 hK11 => ?_)
     refine wp_seq_k (fun K12 hK12 => ?_)
     refine wp_region_lit ?_
     refine wpList_plain rfl (fun Ko hKo => ?_)
     go_simp
     refine hKo _ _ ?_
     clear hKo Ko
     try simp only [Act.put, nm1, nm2, nm3, i64_w]
     refine wpList_plain rfl (fun Ko hKo => ?_)
     go_simp
     refine hKo _ _ ?_
     clear hKo Ko
     try simp only [Act.put, nm1, nm2, nm3, i64_w]
     refine wpList_nil ?_
     (try simp only [Exit.then, Exit.inBlock, ↓reduceIte, Nat.reduceEqDiff])
     refine hK12 _ _ ?_
     refine wp_cond_true rfl ?_
     refine wp_skip ?_
     (try simp only [Exit.then, Exit.inBlock, ↓reduceIte, Nat.reduceEqDiff])
     refine hK11 _ _ ?_
     refine wp_seq_k (fun K13 hK13 => ?_)
     refine wp_block ?_
     refine wp_seq_k (fun K14 hK14 => ?_)
     refine' wp_region_up 7 [Slot.det _, Slot.det _, Slot.det _, Slot.det _, Slot.det _, Slot.det _, Slot.det _] (by kernel_rfl) (by kernel_rfl) ?main
     case main =>
      simp only [List.take_succ_cons, List.take_zero]
      refine wpK_ops rfl (fun w1 hu => ?_) ?_
      · clear hu
        go_simp
        first | done | rfl
      simp only [Act.put, nm1, nm2, nm3, i64_w]
      refine wpK_ops rfl (fun w1 hu => ?_) ?_
      · clear hu
        go_simp
        first | done | rfl
      simp only [Act.put, nm1, nm2, nm3, i64_w]
      refine wpK_ops rfl (fun w1 hu => ?_) ?_
      · have cl0 := ((hb2.up hu7.out).up ((Up.refl _).drew.trans hu)).cell (o := 0) rfl
        go_simp
        first | done | rfl
      simp only [Act.put, nm1, nm2, nm3, i64_w]
      refine wpK_ops rfl (fun w1 hu => ?_) ?_
      · clear hu
        go_simp
        first | done | rfl
      simp only [Act.put, nm1, nm2, nm3, i64_w]
      refine wpK_ops rfl (fun w1 hu => ?_) ?_
      · clear hu
        go_simp
        first | done | rfl
      simp only [Act.put, nm1, nm2, nm3, i64_w]
      refine wpK_ops rfl (fun w1 hu => ?_) ?_
      · have cl0 := (hb5.up ((Up.refl _).drew.trans hu)).cell (o := 0) rfl
        go_simp
        first | done | rfl
      simp only [Act.put, nm1, nm2, nm3, i64_w]
      refine wpK_ops rfl (fun w1 hu => ?_) ?_
      · clear hu
        go_simp
        first | done | rfl
      simp only [Act.put, nm1, nm2, nm3, i64_w]
      refine wpK_nil ?_
      intro w15 hu hap
      simp only [List.drop_succ_cons, List.drop_zero]
      replace hu := (Up.refl _).drew.trans hu
      clear hap
      have hu16 := Aside0.mk hu
      clear hu
      refine wpList_nil ?_
      (try simp only [Exit.then, Exit.inBlock, ↓reduceIte, Nat.reduceEqDiff])
      refine hK14 _ _ ?_
      refine wp_cond_false rfl ?_
      refine wp_skip ?_
      (try simp only [Exit.then, Exit.inBlock, ↓reduceIte, Nat.reduceEqDiff])
      refine hK13 _ _ ?_
      refine wp_region_lit ?_
      refine wpList_plain rfl (fun Ko hKo => ?_)
      go_simp
      refine hKo _ _ ?_
      clear hKo Ko
      try simp only [Act.put, nm1, nm2, nm3, i64_w]
      refine wpList_plain rfl (fun Ko hKo => ?_)
      go_simp
      refine hKo _ _ ?_
      clear hKo Ko
      try simp only [Act.put, nm1, nm2, nm3, i64_w]
      try simp only [show wrap64 1 = 1 from wlit rfl]
      refine wpList_plain rfl (fun Ko hKo => ?_)
      go_simp
      refine hKo _ _ ?_
      clear hKo Ko
      try simp only [Act.put, nm1, nm2, nm3, i64_w]
      refine wpList_nil ?_
      (try simp only [Exit.then, Exit.inBlock, ↓reduceIte, Nat.reduceEqDiff])
      refine hK10 _ _ ?_
      refine rounds_k (fun K18 hK18 => ?_)
      refine wp_seq_k (fun K19 hK19 => ?_)
      refine wp_seq_k (fun K20 hK20 => ?_)
      refine wp_region_lit ?_
      refine wpList_plain rfl (fun Ko hKo => ?_)
      go_simp
      refine hKo _ _ ?_
      clear hKo Ko
      try simp only [Act.put, nm1, nm2, nm3, i64_w]
      refine wpList_plain rfl (fun Ko hKo => ?_)
      go_simp
      refine hKo _ _ ?_
      clear hKo Ko
      try simp only [Act.put, nm1, nm2, nm3, i64_w]
      refine wpList_nil ?_
      (try simp only [Exit.then, Exit.inBlock, ↓reduceIte, Nat.reduceEqDiff])
      refine hK20 _ _ ?_
      refine wp_cond_true rfl ?_
      refine wp_skip ?_
      (try simp only [Exit.then, Exit.inBlock, ↓reduceIte, Nat.reduceEqDiff])
      refine hK19 _ _ ?_
      refine wp_seq_k (fun K21 hK21 => ?_)
      refine wp_block ?_
      refine wp_seq_k (fun K22 hK22 => ?_)
      refine' wp_region_up 7 [Slot.det _, Slot.det _, Slot.det _, Slot.det _, Slot.det _, Slot.det _, Slot.det _] (by kernel_rfl) (by kernel_rfl) ?main
      case main =>
       simp only [List.take_succ_cons, List.take_zero]
       refine wpK_ops rfl (fun w1 hu => ?_) ?_
       · clear hu
         go_simp
         first | done | rfl
       simp only [Act.put, nm1, nm2, nm3, i64_w]
       refine wpK_ops rfl (fun w1 hu => ?_) ?_
       · clear hu
         go_simp
         first | done | rfl
       simp only [Act.put, nm1, nm2, nm3, i64_w]
       refine wpK_ops rfl (fun w1 hu => ?_) ?_
       · have cl0 := ((hb2.up (hu7.out.trans hu16.out)).up ((Up.refl _).drew.trans hu)).cell (o := 1) rfl
         go_simp
         first | done | rfl
       simp only [Act.put, nm1, nm2, nm3, i64_w]
       refine wpK_ops rfl (fun w1 hu => ?_) ?_
       · clear hu
         go_simp
         first | done | rfl
       simp only [Act.put, nm1, nm2, nm3, i64_w]
       refine wpK_ops rfl (fun w1 hu => ?_) ?_
       · clear hu
         go_simp
         first | done | rfl
       simp only [Act.put, nm1, nm2, nm3, i64_w]
       refine wpK_ops rfl (fun w1 hu => ?_) ?_
       · have cl0 := ((hb5.up hu16.out).up ((Up.refl _).drew.trans hu)).cell (o := 1) rfl
         go_simp
         first | done | rfl
       simp only [Act.put, nm1, nm2, nm3, i64_w]
       refine wpK_ops rfl (fun w1 hu => ?_) ?_
       · clear hu
         go_simp
         first | done | rfl
       simp only [Act.put, nm1, nm2, nm3, i64_w]
       refine wpK_nil ?_
       intro w23 hu hap
       simp only [List.drop_succ_cons, List.drop_zero]
       replace hu := (Up.refl _).drew.trans hu
       clear hap
       have hu24 := Aside0.mk hu
       clear hu
       refine wpList_nil ?_
       (try simp only [Exit.then, Exit.inBlock, ↓reduceIte, Nat.reduceEqDiff])
       refine hK22 _ _ ?_
       refine wp_cond_false rfl ?_
       refine wp_skip ?_
       (try simp only [Exit.then, Exit.inBlock, ↓reduceIte, Nat.reduceEqDiff])
       refine hK21 _ _ ?_
       refine wp_region_lit ?_
       refine wpList_plain rfl (fun Ko hKo => ?_)
       go_simp
       refine hKo _ _ ?_
       clear hKo Ko
       try simp only [Act.put, nm1, nm2, nm3, i64_w]
       refine wpList_plain rfl (fun Ko hKo => ?_)
       go_simp
       refine hKo _ _ ?_
       clear hKo Ko
       try simp only [Act.put, nm1, nm2, nm3, i64_w]
       try simp only [show wrap64 2 = 2 from wlit rfl]
       refine wpList_plain rfl (fun Ko hKo => ?_)
       go_simp
       refine hKo _ _ ?_
       clear hKo Ko
       try simp only [Act.put, nm1, nm2, nm3, i64_w]
       refine wpList_nil ?_
       (try simp only [Exit.then, Exit.inBlock, ↓reduceIte, Nat.reduceEqDiff])
       refine hK18 _ _ ?_
       refine rounds_k (fun K26 hK26 => ?_)
       refine wp_seq_k (fun K27 hK27 => ?_)
       refine wp_seq_k (fun K28 hK28 => ?_)
       refine wp_region_lit ?_
       refine wpList_plain rfl (fun Ko hKo => ?_)
       go_simp
       refine hKo _ _ ?_
       clear hKo Ko
       try simp only [Act.put, nm1, nm2, nm3, i64_w]
       refine wpList_plain rfl (fun Ko hKo => ?_)
       go_simp
       refine hKo _ _ ?_
       clear hKo Ko
       try simp only [Act.put, nm1, nm2, nm3, i64_w]
       refine wpList_nil ?_
       (try simp only [Exit.then, Exit.inBlock, ↓reduceIte, Nat.reduceEqDiff])
       refine hK28 _ _ ?_
       refine wp_cond_true rfl ?_
       refine wp_skip ?_
       (try simp only [Exit.then, Exit.inBlock, ↓reduceIte, Nat.reduceEqDiff])
       refine hK27 _ _ ?_
       refine wp_seq_k (fun K29 hK29 => ?_)
       refine wp_block ?_
       refine wp_seq_k (fun K30 hK30 => ?_)
       refine' wp_region_up 7 [Slot.det _, Slot.det _, Slot.det _, Slot.det _, Slot.det _, Slot.det _, Slot.det _] (by kernel_rfl) (by kernel_rfl) ?main
       case main =>
        simp only [List.take_succ_cons, List.take_zero]
        refine wpK_ops rfl (fun w1 hu => ?_) ?_
        · clear hu
          go_simp
          first | done | rfl
        simp only [Act.put, nm1, nm2, nm3, i64_w]
        refine wpK_ops rfl (fun w1 hu => ?_) ?_
        · clear hu
          go_simp
          first | done | rfl
        simp only [Act.put, nm1, nm2, nm3, i64_w]
        refine wpK_ops rfl (fun w1 hu => ?_) ?_
        · have cl0 := ((hb2.up ((hu7.out.trans hu16.out).trans hu24.out)).up ((Up.refl _).drew.trans hu)).cell (o := 2) rfl
          go_simp
          first | done | rfl
        simp only [Act.put, nm1, nm2, nm3, i64_w]
        refine wpK_ops rfl (fun w1 hu => ?_) ?_
        · clear hu
          go_simp
          first | done | rfl
        simp only [Act.put, nm1, nm2, nm3, i64_w]
        refine wpK_ops rfl (fun w1 hu => ?_) ?_
        · clear hu
          go_simp
          first | done | rfl
        simp only [Act.put, nm1, nm2, nm3, i64_w]
        refine wpK_ops rfl (fun w1 hu => ?_) ?_
        · have cl0 := ((hb5.up (hu16.out.trans hu24.out)).up ((Up.refl _).drew.trans hu)).cell (o := 2) rfl
          go_simp
          first | done | rfl
        simp only [Act.put, nm1, nm2, nm3, i64_w]
        refine wpK_ops rfl (fun w1 hu => ?_) ?_
        · clear hu
          go_simp
          first | done | rfl
        simp only [Act.put, nm1, nm2, nm3, i64_w]
        refine wpK_nil ?_
        intro w31 hu hap
        simp only [List.drop_succ_cons, List.drop_zero]
        replace hu := (Up.refl _).drew.trans hu
        clear hap
        have hu32 := Aside0.mk hu
        clear hu
        refine wpList_nil ?_
        (try simp only [Exit.then, Exit.inBlock, ↓reduceIte, Nat.reduceEqDiff])
        refine hK30 _ _ ?_
        refine wp_cond_false rfl ?_
        refine wp_skip ?_
        (try simp only [Exit.then, Exit.inBlock, ↓reduceIte, Nat.reduceEqDiff])
        refine hK29 _ _ ?_
        refine wp_region_lit ?_
        refine wpList_plain rfl (fun Ko hKo => ?_)
        go_simp
        refine hKo _ _ ?_
        clear hKo Ko
        try simp only [Act.put, nm1, nm2, nm3, i64_w]
        refine wpList_plain rfl (fun Ko hKo => ?_)
        go_simp
        refine hKo _ _ ?_
        clear hKo Ko
        try simp only [Act.put, nm1, nm2, nm3, i64_w]
        try simp only [show wrap64 3 = 3 from wlit rfl]
        refine wpList_plain rfl (fun Ko hKo => ?_)
        go_simp
        refine hKo _ _ ?_
        clear hKo Ko
        try simp only [Act.put, nm1, nm2, nm3, i64_w]
        refine wpList_nil ?_
        (try simp only [Exit.then, Exit.inBlock, ↓reduceIte, Nat.reduceEqDiff])
        refine hK26 _ _ ?_
        refine rounds_k (fun K34 hK34 => ?_)
        refine wp_seq_k (fun K35 hK35 => ?_)
        refine wp_seq_k (fun K36 hK36 => ?_)
        refine wp_region_lit ?_
        refine wpList_plain rfl (fun Ko hKo => ?_)
        go_simp
        refine hKo _ _ ?_
        clear hKo Ko
        try simp only [Act.put, nm1, nm2, nm3, i64_w]
        refine wpList_plain rfl (fun Ko hKo => ?_)
        go_simp
        refine hKo _ _ ?_
        clear hKo Ko
        try simp only [Act.put, nm1, nm2, nm3, i64_w]
        refine wpList_nil ?_
        (try simp only [Exit.then, Exit.inBlock, ↓reduceIte, Nat.reduceEqDiff])
        refine hK36 _ _ ?_
        refine wp_cond_true rfl ?_
        refine wp_skip ?_
        (try simp only [Exit.then, Exit.inBlock, ↓reduceIte, Nat.reduceEqDiff])
        refine hK35 _ _ ?_
        refine wp_seq_k (fun K37 hK37 => ?_)
        refine wp_block ?_
        refine wp_seq_k (fun K38 hK38 => ?_)
        refine' wp_region_up 7 [Slot.det _, Slot.det _, Slot.det _, Slot.det _, Slot.det _, Slot.det _, Slot.det _] (by kernel_rfl) (by kernel_rfl) ?main
        case main =>
         simp only [List.take_succ_cons, List.take_zero]
         refine wpK_ops rfl (fun w1 hu => ?_) ?_
         · clear hu
           go_simp
           first | done | rfl
         simp only [Act.put, nm1, nm2, nm3, i64_w]
         refine wpK_ops rfl (fun w1 hu => ?_) ?_
         · clear hu
           go_simp
           first | done | rfl
         simp only [Act.put, nm1, nm2, nm3, i64_w]
         refine wpK_ops rfl (fun w1 hu => ?_) ?_
         · have cl0 := ((hb2.up (((hu7.out.trans hu16.out).trans hu24.out).trans hu32.out)).up ((Up.refl _).drew.trans hu)).cell (o := 3) rfl
           go_simp
           first | done | rfl
         simp only [Act.put, nm1, nm2, nm3, i64_w]
         refine wpK_ops rfl (fun w1 hu => ?_) ?_
         · clear hu
           go_simp
           first | done | rfl
         simp only [Act.put, nm1, nm2, nm3, i64_w]
         refine wpK_ops rfl (fun w1 hu => ?_) ?_
         · clear hu
           go_simp
           first | done | rfl
         simp only [Act.put, nm1, nm2, nm3, i64_w]
         refine wpK_ops rfl (fun w1 hu => ?_) ?_
         · have cl0 := ((hb5.up ((hu16.out.trans hu24.out).trans hu32.out)).up ((Up.refl _).drew.trans hu)).cell (o := 3) rfl
           go_simp
           first | done | rfl
         simp only [Act.put, nm1, nm2, nm3, i64_w]
         refine wpK_ops rfl (fun w1 hu => ?_) ?_
         · clear hu
           go_simp
           first | done | rfl
         simp only [Act.put, nm1, nm2, nm3, i64_w]
         refine wpK_nil ?_
         intro w39 hu hap
         simp only [List.drop_succ_cons, List.drop_zero]
         replace hu := (Up.refl _).drew.trans hu
         clear hap
         have hu40 := Aside0.mk hu
         clear hu
         refine wpList_nil ?_
         (try simp only [Exit.then, Exit.inBlock, ↓reduceIte, Nat.reduceEqDiff])
         refine hK38 _ _ ?_
         refine wp_cond_false rfl ?_
         refine wp_skip ?_
         (try simp only [Exit.then, Exit.inBlock, ↓reduceIte, Nat.reduceEqDiff])
         refine hK37 _ _ ?_
         refine wp_region_lit ?_
         refine wpList_plain rfl (fun Ko hKo => ?_)
         go_simp
         refine hKo _ _ ?_
         clear hKo Ko
         try simp only [Act.put, nm1, nm2, nm3, i64_w]
         refine wpList_plain rfl (fun Ko hKo => ?_)
         go_simp
         refine hKo _ _ ?_
         clear hKo Ko
         try simp only [Act.put, nm1, nm2, nm3, i64_w]
         try simp only [show wrap64 4 = 4 from wlit rfl]
         refine wpList_plain rfl (fun Ko hKo => ?_)
         go_simp
         refine hKo _ _ ?_
         clear hKo Ko
         try simp only [Act.put, nm1, nm2, nm3, i64_w]
         refine wpList_nil ?_
         (try simp only [Exit.then, Exit.inBlock, ↓reduceIte, Nat.reduceEqDiff])
         refine hK34 _ _ ?_
         refine rounds_k (fun K42 hK42 => ?_)
         refine wp_seq_k (fun K43 hK43 => ?_)
         refine wp_seq_k (fun K44 hK44 => ?_)
         refine wp_region_lit ?_
         refine wpList_plain rfl (fun Ko hKo => ?_)
         go_simp
         refine hKo _ _ ?_
         clear hKo Ko
         try simp only [Act.put, nm1, nm2, nm3, i64_w]
         refine wpList_plain rfl (fun Ko hKo => ?_)
         go_simp
         refine hKo _ _ ?_
         clear hKo Ko
         try simp only [Act.put, nm1, nm2, nm3, i64_w]
         refine wpList_nil ?_
         (try simp only [Exit.then, Exit.inBlock, ↓reduceIte, Nat.reduceEqDiff])
         refine hK44 _ _ ?_
         refine wp_cond_false rfl ?_
         refine wp_exit ?_
         (try simp only [Exit.then, Exit.inBlock, ↓reduceIte, Nat.reduceEqDiff])
         refine hK8 _ _ ?_
         refine wp_seq_k (fun K45 hK45 => ?_)
         refine wp_region_lit ?_
         refine wpList_plain rfl (fun Ko hKo => ?_)
         go_simp
         refine hKo _ _ ?_
         clear hKo Ko
         try simp only [Act.put, nm1, nm2, nm3, i64_w]
         refine wpList_nil ?_
         (try simp only [Exit.then, Exit.inBlock, ↓reduceIte, Nat.reduceEqDiff])
         refine hK45 _ _ ?_
         refine wp_ret ?_
         (try simp only [Exit.then, Exit.inBlock, ↓reduceIte, Nat.reduceEqDiff])
         refine hQf _ _ _ ?_
         exact bodyPost_ret (v := .bool true) (by first | rfl | (simp [results, Tryd.results12, go_sem]; done) | (simp [results, Tryd.results12, go_sem]; rfl)) rfl ⟨rfl, (((((hu4.out.trans hu7.out).trans hu16.out).trans hu24.out).trans hu32.out).trans hu40.out)⟩
    ·
     rw [if_neg c41] at H
     replace c41 := Bool.eq_false_iff.mpr c41
     have c41n : (a0_3 != a1_3) = true := by rw [bne, c41]; rfl
     have c41p : ¬ a0_3 = a1_3 := fun e => by simp [e] at c41
     obtain rfl := Option.some.inj H
     go_enter Tryd.func12, Tryd.ntmps12
     refine wp_hide (fun Qf hQf => ?_)
     refine wp_seq_k (fun K1 hK1 => ?_)
     refine wp_region_lit ?_
     refine step_new (cs := [.int .i64 a0_0, .int .i64 a0_1, .int .i64 a0_2, .int .i64 a0_3]) (T := 23) (f := fun b => .pointer (some ⟨b, 0, none⟩)) rfl (by first | (go_simp; done) | (go_simp; rfl)) ?_
     intro b2 w3 hu lb hb2
     simp only [Act.put, nm1, nm2, nm3, i64_w]
     have lbb2 := Aside0.mk lb
     have ltb2 := Aside0.mk hb2.lt
     clear lb
     have hu4 := Aside0.mk hu
     clear hu
     refine step_new (cs := [.int .i64 a1_0, .int .i64 a1_1, .int .i64 a1_2, .int .i64 a1_3]) (T := 23) (f := fun b => .pointer (some ⟨b, 0, none⟩)) rfl (by first | (go_simp; done) | (go_simp; rfl)) ?_
     intro b5 w6 hu lb hb5
     simp only [Act.put, nm1, nm2, nm3, i64_w]
     have lbb5 := Aside0.mk lb
     have ltb5 := Aside0.mk hb5.lt
     clear lb
     have hu7 := Aside0.mk hu
     clear hu
     refine wpList_plain rfl (fun Ko hKo => ?_)
     go_simp
     refine hKo _ _ ?_
     clear hKo Ko
     try simp only [Act.put, nm1, nm2, nm3, i64_w]
     refine wpList_nil ?_
     (try simp only [Exit.then, Exit.inBlock, ↓reduceIte, Nat.reduceEqDiff])
     refine hK1 _ _ ?_
     refine wp_seq_k (fun K8 hK8 => ?_)
     refine wp_seq_k (fun K9 hK9 => ?_)
     refine wp_region_lit ?_
     refine wpList_plain rfl (fun Ko hKo => ?_)
     go_simp
     refine hKo _ _ ?_
     clear hKo Ko
     try simp only [Act.put, nm1, nm2, nm3, i64_w]
     refine wpList_nil ?_
     (try simp only [Exit.then, Exit.inBlock, ↓reduceIte, Nat.reduceEqDiff])
     refine hK9 _ _ ?_
     refine wp_block ?_
     refine wp_loop_rounds 40 ?_
     refine rounds_k (fun K10 hK10 => ?_)
     refine wp_seq_k (fun K11 hK11 => ?_)
     refine wp_seq_k (fun K12 hK12 => ?_)
     refine wp_region_lit ?_
     refine wpList_plain rfl (fun Ko hKo => ?_)
     go_simp
     refine hKo _ _ ?_
     clear hKo Ko
     try simp only [Act.put, nm1, nm2, nm3, i64_w]
     refine wpList_plain rfl (fun Ko hKo => ?_)
     go_simp
     refine hKo _ _ ?_
     clear hKo Ko
     try simp only [Act.put, nm1, nm2, nm3, i64_w]
     refine wpList_nil ?_
     (try simp only [Exit.then, Exit.inBlock, ↓reduceIte, Nat.reduceEqDiff])
     refine hK12 _ _ ?_
     refine wp_cond_true rfl ?_
     refine wp_skip ?_
     (try simp only [Exit.then, Exit.inBlock, ↓reduceIte, Nat.reduceEqDiff])
     refine hK11 _ _ ?_
     refine wp_seq_k (fun K13 hK13 => ?_)
     refine wp_block ?_
     refine wp_seq_k (fun K14 hK14 => ?_)
     refine' wp_region_up 7 [Slot.det _, Slot.det _, Slot.det _, Slot.det _, Slot.det _, Slot.det _, Slot.det _] (by kernel_rfl) (by kernel_rfl) ?main
     case main =>
      simp only [List.take_succ_cons, List.take_zero]
      refine wpK_ops rfl (fun w1 hu => ?_) ?_
      · clear hu
        go_simp
        first | done | rfl
      simp only [Act.put, nm1, nm2, nm3, i64_w]
      refine wpK_ops rfl (fun w1 hu => ?_) ?_
      · clear hu
        go_simp
        first | done | rfl
      simp only [Act.put, nm1, nm2, nm3, i64_w]
      refine wpK_ops rfl (fun w1 hu => ?_) ?_
      · have cl0 := ((hb2.up hu7.out).up ((Up.refl _).drew.trans hu)).cell (o := 0) rfl
        go_simp
        first | done | rfl
      simp only [Act.put, nm1, nm2, nm3, i64_w]
      refine wpK_ops rfl (fun w1 hu => ?_) ?_
      · clear hu
        go_simp
        first | done | rfl
      simp only [Act.put, nm1, nm2, nm3, i64_w]
      refine wpK_ops rfl (fun w1 hu => ?_) ?_
      · clear hu
        go_simp
        first | done | rfl
      simp only [Act.put, nm1, nm2, nm3, i64_w]
      refine wpK_ops rfl (fun w1 hu => ?_) ?_
      · have cl0 := (hb5.up ((Up.refl _).drew.trans hu)).cell (o := 0) rfl
        go_simp
        first | done | rfl
      simp only [Act.put, nm1, nm2, nm3, i64_w]
      refine wpK_ops rfl (fun w1 hu => ?_) ?_
      · clear hu
        go_simp
        first | done | rfl
      simp only [Act.put, nm1, nm2, nm3, i64_w]
      refine wpK_nil ?_
      intro w15 hu hap
      simp only [List.drop_succ_cons, List.drop_zero]
      replace hu := (Up.refl _).drew.trans hu
      clear hap
      have hu16 := Aside0.mk hu
      clear hu
      refine wpList_nil ?_
      (try simp only [Exit.then, Exit.inBlock, ↓reduceIte, Nat.reduceEqDiff])
      refine hK14 _ _ ?_
      refine wp_cond_false rfl ?_
      refine wp_skip ?_
      (try simp only [Exit.then, Exit.inBlock, ↓reduceIte, Nat.reduceEqDiff])
      refine hK13 _ _ ?_
      refine wp_region_lit ?_
      refine wpList_plain rfl (fun Ko hKo => ?_)
      go_simp
      refine hKo _ _ ?_
      clear hKo Ko
      try simp only [Act.put, nm1, nm2, nm3, i64_w]
      refine wpList_plain rfl (fun Ko hKo => ?_)
      go_simp
      refine hKo _ _ ?_
      clear hKo Ko
      try simp only [Act.put, nm1, nm2, nm3, i64_w]
      try simp only [show wrap64 1 = 1 from wlit rfl]
      refine wpList_plain rfl (fun Ko hKo => ?_)
      go_simp
      refine hKo _ _ ?_
      clear hKo Ko
      try simp only [Act.put, nm1, nm2, nm3, i64_w]
      refine wpList_nil ?_
      (try simp only [Exit.then, Exit.inBlock, ↓reduceIte, Nat.reduceEqDiff])
      refine hK10 _ _ ?_
      refine rounds_k (fun K18 hK18 => ?_)
      refine wp_seq_k (fun K19 hK19 => ?_)
      refine wp_seq_k (fun K20 hK20 => ?_)
      refine wp_region_lit ?_
      refine wpList_plain rfl (fun Ko hKo => ?_)
      go_simp
      refine hKo _ _ ?_
      clear hKo Ko
      try simp only [Act.put, nm1, nm2, nm3, i64_w]
      refine wpList_plain rfl (fun Ko hKo => ?_)
      go_simp
      refine hKo _ _ ?_
      clear hKo Ko
      try simp only [Act.put, nm1, nm2, nm3, i64_w]
      refine wpList_nil ?_
      (try simp only [Exit.then, Exit.inBlock, ↓reduceIte, Nat.reduceEqDiff])
      refine hK20 _ _ ?_
      refine wp_cond_true rfl ?_
      refine wp_skip ?_
      (try simp only [Exit.then, Exit.inBlock, ↓reduceIte, Nat.reduceEqDiff])
      refine hK19 _ _ ?_
      refine wp_seq_k (fun K21 hK21 => ?_)
      refine wp_block ?_
      refine wp_seq_k (fun K22 hK22 => ?_)
      refine' wp_region_up 7 [Slot.det _, Slot.det _, Slot.det _, Slot.det _, Slot.det _, Slot.det _, Slot.det _] (by kernel_rfl) (by kernel_rfl) ?main
      case main =>
       simp only [List.take_succ_cons, List.take_zero]
       refine wpK_ops rfl (fun w1 hu => ?_) ?_
       · clear hu
         go_simp
         first | done | rfl
       simp only [Act.put, nm1, nm2, nm3, i64_w]
       refine wpK_ops rfl (fun w1 hu => ?_) ?_
       · clear hu
         go_simp
         first | done | rfl
       simp only [Act.put, nm1, nm2, nm3, i64_w]
       refine wpK_ops rfl (fun w1 hu => ?_) ?_
       · have cl0 := ((hb2.up (hu7.out.trans hu16.out)).up ((Up.refl _).drew.trans hu)).cell (o := 1) rfl
         go_simp
         first | done | rfl
       simp only [Act.put, nm1, nm2, nm3, i64_w]
       refine wpK_ops rfl (fun w1 hu => ?_) ?_
       · clear hu
         go_simp
         first | done | rfl
       simp only [Act.put, nm1, nm2, nm3, i64_w]
       refine wpK_ops rfl (fun w1 hu => ?_) ?_
       · clear hu
         go_simp
         first | done | rfl
       simp only [Act.put, nm1, nm2, nm3, i64_w]
       refine wpK_ops rfl (fun w1 hu => ?_) ?_
       · have cl0 := ((hb5.up hu16.out).up ((Up.refl _).drew.trans hu)).cell (o := 1) rfl
         go_simp
         first | done | rfl
       simp only [Act.put, nm1, nm2, nm3, i64_w]
       refine wpK_ops rfl (fun w1 hu => ?_) ?_
       · clear hu
         go_simp
         first | done | rfl
       simp only [Act.put, nm1, nm2, nm3, i64_w]
       refine wpK_nil ?_
       intro w23 hu hap
       simp only [List.drop_succ_cons, List.drop_zero]
       replace hu := (Up.refl _).drew.trans hu
       clear hap
       have hu24 := Aside0.mk hu
       clear hu
       refine wpList_nil ?_
       (try simp only [Exit.then, Exit.inBlock, ↓reduceIte, Nat.reduceEqDiff])
       refine hK22 _ _ ?_
       refine wp_cond_false rfl ?_
       refine wp_skip ?_
       (try simp only [Exit.then, Exit.inBlock, ↓reduceIte, Nat.reduceEqDiff])
       refine hK21 _ _ ?_
       refine wp_region_lit ?_
       refine wpList_plain rfl (fun Ko hKo => ?_)
       go_simp
       refine hKo _ _ ?_
       clear hKo Ko
       try simp only [Act.put, nm1, nm2, nm3, i64_w]
       refine wpList_plain rfl (fun Ko hKo => ?_)
       go_simp
       refine hKo _ _ ?_
       clear hKo Ko
       try simp only [Act.put, nm1, nm2, nm3, i64_w]
       try simp only [show wrap64 2 = 2 from wlit rfl]
       refine wpList_plain rfl (fun Ko hKo => ?_)
       go_simp
       refine hKo _ _ ?_
       clear hKo Ko
       try simp only [Act.put, nm1, nm2, nm3, i64_w]
       refine wpList_nil ?_
       (try simp only [Exit.then, Exit.inBlock, ↓reduceIte, Nat.reduceEqDiff])
       refine hK18 _ _ ?_
       refine rounds_k (fun K26 hK26 => ?_)
       refine wp_seq_k (fun K27 hK27 => ?_)
       refine wp_seq_k (fun K28 hK28 => ?_)
       refine wp_region_lit ?_
       refine wpList_plain rfl (fun Ko hKo => ?_)
       go_simp
       refine hKo _ _ ?_
       clear hKo Ko
       try simp only [Act.put, nm1, nm2, nm3, i64_w]
       refine wpList_plain rfl (fun Ko hKo => ?_)
       go_simp
       refine hKo _ _ ?_
       clear hKo Ko
       try simp only [Act.put, nm1, nm2, nm3, i64_w]
       refine wpList_nil ?_
       (try simp only [Exit.then, Exit.inBlock, ↓reduceIte, Nat.reduceEqDiff])
       refine hK28 _ _ ?_
       refine wp_cond_true rfl ?_
       refine wp_skip ?_
       (try simp only [Exit.then, Exit.inBlock, ↓reduceIte, Nat.reduceEqDiff])
       refine hK27 _ _ ?_
       refine wp_seq_k (fun K29 hK29 => ?_)
       refine wp_block ?_
       refine wp_seq_k (fun K30 hK30 => ?_)
       refine' wp_region_up 7 [Slot.det _, Slot.det _, Slot.det _, Slot.det _, Slot.det _, Slot.det _, Slot.det _] (by kernel_rfl) (by kernel_rfl) ?main
       case main =>
        simp only [List.take_succ_cons, List.take_zero]
        refine wpK_ops rfl (fun w1 hu => ?_) ?_
        · clear hu
          go_simp
          first | done | rfl
        simp only [Act.put, nm1, nm2, nm3, i64_w]
        refine wpK_ops rfl (fun w1 hu => ?_) ?_
        · clear hu
          go_simp
          first | done | rfl
        simp only [Act.put, nm1, nm2, nm3, i64_w]
        refine wpK_ops rfl (fun w1 hu => ?_) ?_
        · have cl0 := ((hb2.up ((hu7.out.trans hu16.out).trans hu24.out)).up ((Up.refl _).drew.trans hu)).cell (o := 2) rfl
          go_simp
          first | done | rfl
        simp only [Act.put, nm1, nm2, nm3, i64_w]
        refine wpK_ops rfl (fun w1 hu => ?_) ?_
        · clear hu
          go_simp
          first | done | rfl
        simp only [Act.put, nm1, nm2, nm3, i64_w]
        refine wpK_ops rfl (fun w1 hu => ?_) ?_
        · clear hu
          go_simp
          first | done | rfl
        simp only [Act.put, nm1, nm2, nm3, i64_w]
        refine wpK_ops rfl (fun w1 hu => ?_) ?_
        · have cl0 := ((hb5.up (hu16.out.trans hu24.out)).up ((Up.refl _).drew.trans hu)).cell (o := 2) rfl
          go_simp
          first | done | rfl
        simp only [Act.put, nm1, nm2, nm3, i64_w]
        refine wpK_ops rfl (fun w1 hu => ?_) ?_
        · clear hu
          go_simp
          first | done | rfl
        simp only [Act.put, nm1, nm2, nm3, i64_w]
        refine wpK_nil ?_
        intro w31 hu hap
        simp only [List.drop_succ_cons, List.drop_zero]
        replace hu := (Up.refl _).drew.trans hu
        clear hap
        have hu32 := Aside0.mk hu
        clear hu
        refine wpList_nil ?_
        (try simp only [Exit.then, Exit.inBlock, ↓reduceIte, Nat.reduceEqDiff])
        refine hK30 _ _ ?_
        refine wp_cond_false rfl ?_
        refine wp_skip ?_
        (try simp only [Exit.then, Exit.inBlock, ↓reduceIte, Nat.reduceEqDiff])
        refine hK29 _ _ ?_
        refine wp_region_lit ?_
        refine wpList_plain rfl (fun Ko hKo => ?_)
        go_simp
        refine hKo _ _ ?_
        clear hKo Ko
        try simp only [Act.put, nm1, nm2, nm3, i64_w]
        refine wpList_plain rfl (fun Ko hKo => ?_)
        go_simp
        refine hKo _ _ ?_
        clear hKo Ko
        try simp only [Act.put, nm1, nm2, nm3, i64_w]
        try simp only [show wrap64 3 = 3 from wlit rfl]
        refine wpList_plain rfl (fun Ko hKo => ?_)
        go_simp
        refine hKo _ _ ?_
        clear hKo Ko
        try simp only [Act.put, nm1, nm2, nm3, i64_w]
        refine wpList_nil ?_
        (try simp only [Exit.then, Exit.inBlock, ↓reduceIte, Nat.reduceEqDiff])
        refine hK26 _ _ ?_
        refine rounds_k (fun K34 hK34 => ?_)
        refine wp_seq_k (fun K35 hK35 => ?_)
        refine wp_seq_k (fun K36 hK36 => ?_)
        refine wp_region_lit ?_
        refine wpList_plain rfl (fun Ko hKo => ?_)
        go_simp
        refine hKo _ _ ?_
        clear hKo Ko
        try simp only [Act.put, nm1, nm2, nm3, i64_w]
        refine wpList_plain rfl (fun Ko hKo => ?_)
        go_simp
        refine hKo _ _ ?_
        clear hKo Ko
        try simp only [Act.put, nm1, nm2, nm3, i64_w]
        refine wpList_nil ?_
        (try simp only [Exit.then, Exit.inBlock, ↓reduceIte, Nat.reduceEqDiff])
        refine hK36 _ _ ?_
        refine wp_cond_true rfl ?_
        refine wp_skip ?_
        (try simp only [Exit.then, Exit.inBlock, ↓reduceIte, Nat.reduceEqDiff])
        refine hK35 _ _ ?_
        refine wp_seq_k (fun K37 hK37 => ?_)
        refine wp_block ?_
        refine wp_seq_k (fun K38 hK38 => ?_)
        refine' wp_region_up 7 [Slot.det _, Slot.det _, Slot.det _, Slot.det _, Slot.det _, Slot.det _, Slot.det _] (by kernel_rfl) (by kernel_rfl) ?main
        case main =>
         simp only [List.take_succ_cons, List.take_zero]
         refine wpK_ops rfl (fun w1 hu => ?_) ?_
         · clear hu
           go_simp
           first | done | rfl
         simp only [Act.put, nm1, nm2, nm3, i64_w]
         refine wpK_ops rfl (fun w1 hu => ?_) ?_
         · clear hu
           go_simp
           first | done | rfl
         simp only [Act.put, nm1, nm2, nm3, i64_w]
         refine wpK_ops rfl (fun w1 hu => ?_) ?_
         · have cl0 := ((hb2.up (((hu7.out.trans hu16.out).trans hu24.out).trans hu32.out)).up ((Up.refl _).drew.trans hu)).cell (o := 3) rfl
           go_simp
           first | done | rfl
         simp only [Act.put, nm1, nm2, nm3, i64_w]
         refine wpK_ops rfl (fun w1 hu => ?_) ?_
         · clear hu
           go_simp
           first | done | rfl
         simp only [Act.put, nm1, nm2, nm3, i64_w]
         refine wpK_ops rfl (fun w1 hu => ?_) ?_
         · clear hu
           go_simp
           first | done | rfl
         simp only [Act.put, nm1, nm2, nm3, i64_w]
         refine wpK_ops rfl (fun w1 hu => ?_) ?_
         · have cl0 := ((hb5.up ((hu16.out.trans hu24.out).trans hu32.out)).up ((Up.refl _).drew.trans hu)).cell (o := 3) rfl
           go_simp
           first | done | rfl
         simp only [Act.put, nm1, nm2, nm3, i64_w]
         refine wpK_ops rfl (fun w1 hu => ?_) ?_
         · clear hu
           go_simp
           first | done | rfl
         simp only [Act.put, nm1, nm2, nm3, i64_w]
         refine wpK_nil ?_
         intro w39 hu hap
         simp only [List.drop_succ_cons, List.drop_zero]
         replace hu := (Up.refl _).drew.trans hu
         clear hap
         have hu40 := Aside0.mk hu
         clear hu
         refine wpList_nil ?_
         (try simp only [Exit.then, Exit.inBlock, ↓reduceIte, Nat.reduceEqDiff])
         refine hK38 _ _ ?_
         refine wp_cond_true rfl ?_
         refine wp_seq_k (fun K46 hK46 => ?_)
         refine wp_region_lit ?_
         refine wpList_plain rfl (fun Ko hKo => ?_)
         go_simp
         refine hKo _ _ ?_
         clear hKo Ko
         try simp only [Act.put, nm1, nm2, nm3, i64_w]
         refine wpList_nil ?_
         (try simp only [Exit.then, Exit.inBlock, ↓reduceIte, Nat.reduceEqDiff])
         refine hK46 _ _ ?_
         refine wp_ret ?_
         (try simp only [Exit.then, Exit.inBlock, ↓reduceIte, Nat.reduceEqDiff])
         refine hQf _ _ _ ?_
         exact bodyPost_ret (v := .bool false) (by first | rfl | (simp [results, Tryd.results12, go_sem]; done) | (simp [results, Tryd.results12, go_sem]; rfl)) rfl ⟨rfl, (((((hu4.out.trans hu7.out).trans hu16.out).trans hu24.out).trans hu32.out).trans hu40.out)⟩
   ·
    rw [if_neg c33] at H
    replace c33 := Bool.eq_false_iff.mpr c33
    have c33n : (a0_2 != a1_2) = true := by rw [bne, c33]; rfl
    have c33p : ¬ a0_2 = a1_2 := fun e => by simp [e] at c33
    obtain rfl := Option.some.inj H
    go_enter Tryd.func12, Tryd.ntmps12
    refine wp_hide (fun Qf hQf => ?_)
    refine wp_seq_k (fun K1 hK1 => ?_)
    refine wp_region_lit ?_
    refine step_new (cs := [.int .i64 a0_0, .int .i64 a0_1, .int .i64 a0_2, .int .i64 a0_3]) (T := 23) (f := fun b => .pointer (some ⟨b, 0, none⟩)) rfl (by first | (go_simp; done) | (go_simp; rfl)) ?_
    intro b2 w3 hu lb hb2
    simp only [Act.put, nm1, nm2, nm3, i64_w]
    have lbb2 := Aside0.mk lb
    have ltb2 := Aside0.mk hb2.lt
    clear lb
    have hu4 := Aside0.mk hu
    clear hu
    refine step_new (cs := [.int .i64 a1_0, .int .i64 a1_1, .int .i64 a1_2, .int .i64 a1_3]) (T := 23) (f := fun b => .pointer (some ⟨b, 0, none⟩)) rfl (by first | (go_simp; done) | (go_simp; rfl)) ?_
    intro b5 w6 hu lb hb5
    simp only [Act.put, nm1, nm2, nm3, i64_w]
    have lbb5 := Aside0.mk lb
    have ltb5 := Aside0.mk hb5.lt
    clear lb
    have hu7 := Aside0.mk hu
    clear hu
    refine wpList_plain rfl (fun Ko hKo => ?_)
    go_simp
    refine hKo _ _ ?_
    clear hKo Ko
    try simp only [Act.put, nm1, nm2, nm3, i64_w]
    refine wpList_nil ?_
    (try simp only [Exit.then, Exit.inBlock, ↓reduceIte, Nat.reduceEqDiff])
    refine hK1 _ _ ?_
    refine wp_seq_k (fun K8 hK8 => ?_)
    refine wp_seq_k (fun K9 hK9 => ?_)
    refine wp_region_lit ?_
    refine wpList_plain rfl (fun Ko hKo => ?_)
    go_simp
    refine hKo _ _ ?_
    clear hKo Ko
    try simp only [Act.put, nm1, nm2, nm3, i64_w]
    refine wpList_nil ?_
    (try simp only [Exit.then, Exit.inBlock, ↓reduceIte, Nat.reduceEqDiff])
    refine hK9 _ _ ?_
    refine wp_block ?_
    refine wp_loop_rounds 40 ?_
    refine rounds_k (fun K10 hK10 => ?_)
    refine wp_seq_k (fun K11 hK11 => ?_)
    refine wp_seq_k (fun K12 hK12 => ?_)
    refine wp_region_lit ?_
    refine wpList_plain rfl (fun Ko hKo => ?_)
    go_simp
    refine hKo _ _ ?_
    clear hKo Ko
    try simp only [Act.put, nm1, nm2, nm3, i64_w]
    refine wpList_plain rfl (fun Ko hKo => ?_)
    go_simp
    refine hKo _ _ ?_
    clear hKo Ko
    try simp only [Act.put, nm1, nm2, nm3, i64_w]
    refine wpList_nil ?_
    (try simp only [Exit.then, Exit.inBlock, ↓reduceIte, Nat.reduceEqDiff])
    refine hK12 _ _ ?_
    refine wp_cond_true rfl ?_
    refine wp_skip ?_
    (try simp only [Exit.then, Exit.inBlock, ↓reduceIte, Nat.reduceEqDiff])
    refine hK11 _ _ ?_
    refine wp_seq_k (fun K13 hK13 => ?_)
    refine wp_block ?_
    refine wp_seq_k (fun K14 hK14 => ?_)
    refine' wp_region_up 7 [Slot.det _, Slot.det _, Slot.det _, Slot.det _, Slot.det _, Slot.det _, Slot.det _] (by kernel_rfl) (by kernel_rfl) ?main
    case main =>
     simp only [List.take_succ_cons, List.take_zero]
     refine wpK_ops rfl (fun w1 hu => ?_) ?_
     · clear hu
       go_simp
       first | done | rfl
     simp only [Act.put, nm1, nm2, nm3, i64_w]
     refine wpK_ops rfl (fun w1 hu => ?_) ?_
     · clear hu
       go_simp
       first | done | rfl
     simp only [Act.put, nm1, nm2, nm3, i64_w]
     refine wpK_ops rfl (fun w1 hu => ?_) ?_
     · have cl0 := ((hb2.up hu7.out).up ((Up.refl _).drew.trans hu)).cell (o := 0) rfl
       go_simp
       first | done | rfl
     simp only [Act.put, nm1, nm2, nm3, i64_w]
     refine wpK_ops rfl (fun w1 hu => ?_) ?_
     · clear hu
       go_simp
       first | done | rfl
     simp only [Act.put, nm1, nm2, nm3, i64_w]
     refine wpK_ops rfl (fun w1 hu => ?_) ?_
     · clear hu
       go_simp
       first | done | rfl
     simp only [Act.put, nm1, nm2, nm3, i64_w]
     refine wpK_ops rfl (fun w1 hu => ?_) ?_
     · have cl0 := (hb5.up ((Up.refl _).drew.trans hu)).cell (o := 0) rfl
       go_simp
       first | done | rfl
     simp only [Act.put, nm1, nm2, nm3, i64_w]
     refine wpK_ops rfl (fun w1 hu => ?_) ?_
     · clear hu
       go_simp
       first | done | rfl
     simp only [Act.put, nm1, nm2, nm3, i64_w]
     refine wpK_nil ?_
     intro w15 hu hap
     simp only [List.drop_succ_cons, List.drop_zero]
     replace hu := (Up.refl _).drew.trans hu
     clear hap
     have hu16 := Aside0.mk hu
     clear hu
     refine wpList_nil ?_
     (try simp only [Exit.then, Exit.inBlock, ↓reduceIte, Nat.reduceEqDiff])
     refine hK14 _ _ ?_
     refine wp_cond_false rfl ?_
     refine wp_skip ?_
     (try simp only [Exit.then, Exit.inBlock, ↓reduceIte, Nat.reduceEqDiff])
     refine hK13 _ _ ?_
     refine wp_region_lit ?_
     refine wpList_plain rfl (fun Ko hKo => ?_)
     go_simp
     refine hKo _ _ ?_
     clear hKo Ko
     try simp only [Act.put, nm1, nm2, nm3, i64_w]
     refine wpList_plain rfl (fun Ko hKo => ?_)
     go_simp
     refine hKo _ _ ?_
     clear hKo Ko
     try simp only [Act.put, nm1, nm2, nm3, i64_w]
     try simp only [show wrap64 1 = 1 from wlit rfl]
     refine wpList_plain rfl (fun Ko hKo => ?_)
     go_simp
     refine hKo _ _ ?_
     clear hKo Ko
     try simp only [Act.put, nm1, nm2, nm3, i64_w]
     refine wpList_nil ?_
     (try simp only [Exit.then, Exit.inBlock, ↓reduceIte, Nat.reduceEqDiff])
     refine hK10 _ _ ?_
     refine rounds_k (fun K18 hK18 => ?_)
     refine wp_seq_k (fun K19 hK19 => ?_)
     refine wp_seq_k (fun K20 hK20 => ?_)
     refine wp_region_lit ?_
     refine wpList_plain rfl (fun Ko hKo => ?_)
     go_simp
     refine hKo _ _ ?_
     clear hKo Ko
     try simp only [Act.put, nm1, nm2, nm3, i64_w]
     refine wpList_plain rfl (fun Ko hKo => ?_)
     go_simp
     refine hKo _ _ ?_
     clear hKo Ko
     try simp only [Act.put, nm1, nm2, nm3, i64_w]
     refine wpList_nil ?_
     (try simp only [Exit.then, Exit.inBlock, ↓reduceIte, Nat.reduceEqDiff])
     refine hK20 _ _ ?_
     refine wp_cond_true rfl ?_
     refine wp_skip ?_
     (try simp only [Exit.then, Exit.inBlock, ↓reduceIte, Nat.reduceEqDiff])
     refine hK19 _ _ ?_
     refine wp_seq_k (fun K21 hK21 => ?_)
     refine wp_block ?_
     refine wp_seq_k (fun K22 hK22 => ?_)
     refine' wp_region_up 7 [Slot.det _, Slot.det _, Slot.det _, Slot.det _, Slot.det _, Slot.det _, Slot.det _] (by kernel_rfl) (by kernel_rfl) ?main
     case main =>
      simp only [List.take_succ_cons, List.take_zero]
      refine wpK_ops rfl (fun w1 hu => ?_) ?_
      · clear hu
        go_simp
        first | done | rfl
      simp only [Act.put, nm1, nm2, nm3, i64_w]
      refine wpK_ops rfl (fun w1 hu => ?_) ?_
      · clear hu
        go_simp
        first | done | rfl
      simp only [Act.put, nm1, nm2, nm3, i64_w]
      refine wpK_ops rfl (fun w1 hu => ?_) ?_
      · have cl0 := ((hb2.up (hu7.out.trans hu16.out)).up ((Up.refl _).drew.trans hu)).cell (o := 1) rfl
        go_simp
        first | done | rfl
      simp only [Act.put, nm1, nm2, nm3, i64_w]
      refine wpK_ops rfl (fun w1 hu => ?_) ?_
      · clear hu
        go_simp
        first | done | rfl
      simp only [Act.put, nm1, nm2, nm3, i64_w]
      refine wpK_ops rfl (fun w1 hu => ?_) ?_
      · clear hu
        go_simp
        first | done | rfl
      simp only [Act.put, nm1, nm2, nm3, i64_w]
      refine wpK_ops rfl (fun w1 hu => ?_) ?_
      · have cl0 := ((hb5.up hu16.out).up ((Up.refl _).drew.trans hu)).cell (o := 1) rfl
        go_simp
        first | done | rfl
      simp only [Act.put, nm1, nm2, nm3, i64_w]
      refine wpK_ops rfl (fun w1 hu => ?_) ?_
      · clear hu
        go_simp
        first | done | rfl
      simp only [Act.put, nm1, nm2, nm3, i64_w]
      refine wpK_nil ?_
      intro w23 hu hap
      simp only [List.drop_succ_cons, List.drop_zero]
      replace hu := (Up.refl _).drew.trans hu
      clear hap
      have hu24 := Aside0.mk hu
      clear hu
      refine wpList_nil ?_
      (try simp only [Exit.then, Exit.inBlock, ↓reduceIte, Nat.reduceEqDiff])
      refine hK22 _ _ ?_
      refine wp_cond_false rfl ?_
      refine wp_skip ?_
      (try simp only [Exit.then, Exit.inBlock, ↓reduceIte, Nat.reduceEqDiff])
      refine hK21 _ _ ?_
      refine wp_region_lit ?_
      refine wpList_plain rfl (fun Ko hKo => ?_)
      go_simp
      refine hKo _ _ ?_
      clear hKo Ko
      try simp only [Act.put, nm1, nm2, nm3, i64_w]
      refine wpList_plain rfl (fun Ko hKo => ?_)
      go_simp
      refine hKo _ _ ?_
      clear hKo Ko
      try simp only [Act.put, nm1, nm2, nm3, i64_w]
      try simp only [show wrap64 2 = 2 from wlit rfl]
      refine wpList_plain rfl (fun Ko hKo => ?_)
      go_simp
      refine hKo _ _ ?_
      clear hKo Ko
      try simp only [Act.put, nm1, nm2, nm3, i64_w]
      refine wpList_nil ?_
      (try simp only [Exit.then, Exit.inBlock, ↓reduceIte, Nat.reduceEqDiff])
      refine hK18 _ _ ?_
      refine rounds_k (fun K26 hK26 => ?_)
      refine wp_seq_k (fun K27 hK27 => ?_)
      refine wp_seq_k (fun K28 hK28 => ?_)
      refine wp_region_lit ?_
      refine wpList_plain rfl (fun Ko hKo => ?_)
      go_simp
      refine hKo _ _ ?_
      clear hKo Ko
      try simp only [Act.put, nm1, nm2, nm3, i64_w]
      refine wpList_plain rfl (fun Ko hKo => ?_)
      go_simp
      refine hKo _ _ ?_
      clear hKo Ko
      try simp only [Act.put, nm1, nm2, nm3, i64_w]
      refine wpList_nil ?_
      (try simp only [Exit.then, Exit.inBlock, ↓reduceIte, Nat.reduceEqDiff])
      refine hK28 _ _ ?_
      refine wp_cond_true rfl ?_
      refine wp_skip ?_
      (try simp only [Exit.then, Exit.inBlock, ↓reduceIte, Nat.reduceEqDiff])
      refine hK27 _ _ ?_
      refine wp_seq_k (fun K29 hK29 => ?_)
      refine wp_block ?_
      refine wp_seq_k (fun K30 hK30 => ?_)
      refine' wp_region_up 7 [Slot.det _, Slot.det _, Slot.det _, Slot.det _, Slot.det _, Slot.det _, Slot.det _] (by kernel_rfl) (by kernel_rfl) ?main
      case main =>
       simp only [List.take_succ_cons, List.take_zero]
       refine wpK_ops rfl (fun w1 hu => ?_) ?_
       · clear hu
         go_simp
         first | done | rfl
       simp only [Act.put, nm1, nm2, nm3, i64_w]
       refine wpK_ops rfl (fun w1 hu => ?_) ?_
       · clear hu
         go_simp
         first | done | rfl
       simp only [Act.put, nm1, nm2, nm3, i64_w]
       refine wpK_ops rfl (fun w1 hu => ?_) ?_
       · have cl0 := ((hb2.up ((hu7.out.trans hu16.out).trans hu24.out)).up ((Up.refl _).drew.trans hu)).cell (o := 2) rfl
         go_simp
         first | done | rfl
       simp only [Act.put, nm1, nm2, nm3, i64_w]
       refine wpK_ops rfl (fun w1 hu => ?_) ?_
       · clear hu
         go_simp
         first | done | rfl
       simp only [Act.put, nm1, nm2, nm3, i64_w]
       refine wpK_ops rfl (fun w1 hu => ?_) ?_
       · clear hu
         go_simp
         first | done | rfl
       simp only [Act.put, nm1, nm2, nm3, i64_w]
       refine wpK_ops rfl (fun w1 hu => ?_) ?_
       · have cl0 := ((hb5.up (hu16.out.trans hu24.out)).up ((Up.refl _).drew.trans hu)).cell (o := 2) rfl
         go_simp
         first | done | rfl
       simp only [Act.put, nm1, nm2, nm3, i64_w]
       refine wpK_ops rfl (fun w1 hu => ?_) ?_
       · clear hu
         go_simp
         first | done | rfl
       simp only [Act.put, nm1, nm2, nm3, i64_w]
       refine wpK_nil ?_
       intro w31 hu hap
       simp only [List.drop_succ_cons, List.drop_zero]
       replace hu := (Up.refl _).drew.trans hu
       clear hap
       have hu32 := Aside0.mk hu
       clear hu
       refine wpList_nil ?_
       (try simp only [Exit.then, Exit.inBlock, ↓reduceIte, Nat.reduceEqDiff])
       refine hK30 _ _ ?_
       refine wp_cond_true rfl ?_
       refine wp_seq_k (fun K47 hK47 => ?_)
       refine wp_region_lit ?_
       refine wpList_plain rfl (fun Ko hKo => ?_)
       go_simp
       refine hKo _ _ ?_
       clear hKo Ko
       try simp only [Act.put, nm1, nm2, nm3, i64_w]
       refine wpList_nil ?_
       (try simp only [Exit.then, Exit.inBlock, ↓reduceIte, Nat.reduceEqDiff])
       refine hK47 _ _ ?_
       refine wp_ret ?_
       (try simp only [Exit.then, Exit.inBlock, ↓reduceIte, Nat.reduceEqDiff])
       refine hQf _ _ _ ?_
       exact bodyPost_ret (v := .bool false) (by first | rfl | (simp [results, Tryd.results12, go_sem]; done) | (simp [results, Tryd.results12, go_sem]; rfl)) rfl ⟨rfl, ((((hu4.out.trans hu7.out).trans hu16.out).trans hu24.out).trans hu32.out)⟩
  ·
   rw [if_neg c25] at H
   replace c25 := Bool.eq_false_iff.mpr c25
   have c25n : (a0_1 != a1_1) = true := by rw [bne, c25]; rfl
   have c25p : ¬ a0_1 = a1_1 := fun e => by simp [e] at c25
   obtain rfl := Option.some.inj H
   go_enter Tryd.func12, Tryd.ntmps12
   refine wp_hide (fun Qf hQf => ?_)
   refine wp_seq_k (fun K1 hK1 => ?_)
   refine wp_region_lit ?_
   refine step_new (cs := [.int .i64 a0_0, .int .i64 a0_1, .int .i64 a0_2, .int .i64 a0_3]) (T := 23) (f := fun b => .pointer (some ⟨b, 0, none⟩)) rfl (by first | (go_simp; done) | (go_simp; rfl)) ?_
   intro b2 w3 hu lb hb2
   simp only [Act.put, nm1, nm2, nm3, i64_w]
   have lbb2 := Aside0.mk lb
   have ltb2 := Aside0.mk hb2.lt
   clear lb
   have hu4 := Aside0.mk hu
   clear hu
   refine step_new (cs := [.int .i64 a1_0, .int .i64 a1_1, .int .i64 a1_2, .int .i64 a1_3]) (T := 23) (f := fun b => .pointer (some ⟨b, 0, none⟩)) rfl (by first | (go_simp; done) | (go_simp; rfl)) ?_
   intro b5 w6 hu lb hb5
   simp only [Act.put, nm1, nm2, nm3, i64_w]
   have lbb5 := Aside0.mk lb
   have ltb5 := Aside0.mk hb5.lt
   clear lb
   have hu7 := Aside0.mk hu
   clear hu
   refine wpList_plain rfl (fun Ko hKo => ?_)
   go_simp
   refine hKo _ _ ?_
   clear hKo Ko
   try simp only [Act.put, nm1, nm2, nm3, i64_w]
   refine wpList_nil ?_
   (try simp only [Exit.then, Exit.inBlock, ↓reduceIte, Nat.reduceEqDiff])
   refine hK1 _ _ ?_
   refine wp_seq_k (fun K8 hK8 => ?_)
   refine wp_seq_k (fun K9 hK9 => ?_)
   refine wp_region_lit ?_
   refine wpList_plain rfl (fun Ko hKo => ?_)
   go_simp
   refine hKo _ _ ?_
   clear hKo Ko
   try simp only [Act.put, nm1, nm2, nm3, i64_w]
   refine wpList_nil ?_
   (try simp only [Exit.then, Exit.inBlock, ↓reduceIte, Nat.reduceEqDiff])
   refine hK9 _ _ ?_
   refine wp_block ?_
   refine wp_loop_rounds 40 ?_
   refine rounds_k (fun K10 hK10 => ?_)
   refine wp_seq_k (fun K11 hK11 => ?_)
   refine wp_seq_k (fun K12 hK12 => ?_)
   refine wp_region_lit ?_
   refine wpList_plain rfl (fun Ko hKo => ?_)
   go_simp
   refine hKo _ _ ?_
   clear hKo Ko
   try simp only [Act.put, nm1, nm2, nm3, i64_w]
   refine wpList_plain rfl (fun Ko hKo => ?_)
   go_simp
   refine hKo _ _ ?_
   clear hKo Ko
   try simp only [Act.put, nm1, nm2, nm3, i64_w]
   refine wpList_nil ?_
   (try simp only [Exit.then, Exit.inBlock, ↓reduceIte, Nat.reduceEqDiff])
   refine hK12 _ _ ?_
   refine wp_cond_true rfl ?_
   refine wp_skip ?_
   (try simp only [Exit.then, Exit.inBlock, ↓reduceIte, Nat.reduceEqDiff])
   refine hK11 _ _ ?_
   refine wp_seq_k (fun K13 hK13 => ?_)
   refine wp_block ?_
   refine wp_seq_k (fun K14 hK14 => ?_)
   refine' wp_region_up 7 [Slot.det _, Slot.det _, Slot.det _, Slot.det _, Slot.det _, Slot.det _, Slot.det _] (by kernel_rfl) (by kernel_rfl) ?main
   case main =>
    simp only [List.take_succ_cons, List.take_zero]
    refine wpK_ops rfl (fun w1 hu => ?_) ?_
    · clear hu
      go_simp
      first | done | rfl
    simp only [Act.put, nm1, nm2, nm3, i64_w]
    refine wpK_ops rfl (fun w1 hu => ?_) ?_
    · clear hu
      go_simp
      first | done | rfl
    simp only [Act.put, nm1, nm2, nm3, i64_w]
    refine wpK_ops rfl (fun w1 hu => ?_) ?_
    · have cl0 := ((hb2.up hu7.out).up ((Up.refl _).drew.trans hu)).cell (o := 0) rfl
      go_simp
      first | done | rfl
    simp only [Act.put, nm1, nm2, nm3, i64_w]
    refine wpK_ops rfl (fun w1 hu => ?_) ?_
    · clear hu
      go_simp
      first | done | rfl
    simp only [Act.put, nm1, nm2, nm3, i64_w]
    refine wpK_ops rfl (fun w1 hu => ?_) ?_
    · clear hu
      go_simp
      first | done | rfl
    simp only [Act.put, nm1, nm2, nm3, i64_w]
    refine wpK_ops rfl (fun w1 hu => ?_) ?_
    · have cl0 := (hb5.up ((Up.refl _).drew.trans hu)).cell (o := 0) rfl
      go_simp
      first | done | rfl
    simp only [Act.put, nm1, nm2, nm3, i64_w]
    refine wpK_ops rfl (fun w1 hu => ?_) ?_
    · clear hu
      go_simp
      first | done | rfl
    simp only [Act.put, nm1, nm2, nm3, i64_w]
    refine wpK_nil ?_
    intro w15 hu hap
    simp only [List.drop_succ_cons, List.drop_zero]
    replace hu := (Up.refl _).drew.trans hu
    clear hap
    have hu16 := Aside0.mk hu
    clear hu
    refine wpList_nil ?_
    (try simp only [Exit.then, Exit.inBlock, ↓reduceIte, Nat.reduceEqDiff])
    refine hK14 _ _ ?_
    refine wp_cond_false rfl ?_
    refine wp_skip ?_
    (try simp only [Exit.then, Exit.inBlock, ↓reduceIte, Nat.reduceEqDiff])
    refine hK13 _ _ ?_
    refine wp_region_lit ?_
    refine wpList_plain rfl (fun Ko hKo => ?_)
    go_simp
    refine hKo _ _ ?_
    clear hKo Ko
    try simp only [Act.put, nm1, nm2, nm3, i64_w]
    refine wpList_plain rfl (fun Ko hKo => ?_)
    go_simp
    refine hKo _ _ ?_
    clear hKo Ko
    try simp only [Act.put, nm1, nm2, nm3, i64_w]
    try simp only [show wrap64 1 = 1 from wlit rfl]
    refine wpList_plain rfl (fun Ko hKo => ?_)
    go_simp
    refine hKo _ _ ?_
    clear hKo Ko
    try simp only [Act.put, nm1, nm2, nm3, i64_w]
    refine wpList_nil ?_
    (try simp only [Exit.then, Exit.inBlock, ↓reduceIte, Nat.reduceEqDiff])
    refine hK10 _ _ ?_
    refine rounds_k (fun K18 hK18 => ?_)
    refine wp_seq_k (fun K19 hK19 => ?_)
    refine wp_seq_k (fun K20 hK20 => ?_)
    refine wp_region_lit ?_
    refine wpList_plain rfl (fun Ko hKo => ?_)
    go_simp
    refine hKo _ _ ?_
    clear hKo Ko
    try simp only [Act.put, nm1, nm2, nm3, i64_w]
    refine wpList_plain rfl (fun Ko hKo => ?_)
    go_simp
    refine hKo _ _ ?_
    clear hKo Ko
    try simp only [Act.put, nm1, nm2, nm3, i64_w]
    refine wpList_nil ?_
    (try simp only [Exit.then, Exit.inBlock, ↓reduceIte, Nat.reduceEqDiff])
    refine hK20 _ _ ?_
    refine wp_cond_true rfl ?_
    refine wp_skip ?_
    (try simp only [Exit.then, Exit.inBlock, ↓reduceIte, Nat.reduceEqDiff])
    refine hK19 _ _ ?_
    refine wp_seq_k (fun K21 hK21 => ?_)
    refine wp_block ?_
    refine wp_seq_k (fun K22 hK22 => ?_)
    refine' wp_region_up 7 [Slot.det _, Slot.det _, Slot.det _, Slot.det _, Slot.det _, Slot.det _, Slot.det _] (by kernel_rfl) (by kernel_rfl) ?main
    case main =>
     simp only [List.take_succ_cons, List.take_zero]
     refine wpK_ops rfl (fun w1 hu => ?_) ?_
     · clear hu
       go_simp
       first | done | rfl
     simp only [Act.put, nm1, nm2, nm3, i64_w]
     refine wpK_ops rfl (fun w1 hu => ?_) ?_
     · clear hu
       go_simp
       first | done | rfl
     simp only [Act.put, nm1, nm2, nm3, i64_w]
     refine wpK_ops rfl (fun w1 hu => ?_) ?_
     · have cl0 := ((hb2.up (hu7.out.trans hu16.out)).up ((Up.refl _).drew.trans hu)).cell (o := 1) rfl
       go_simp
       first | done | rfl
     simp only [Act.put, nm1, nm2, nm3, i64_w]
     refine wpK_ops rfl (fun w1 hu => ?_) ?_
     · clear hu
       go_simp
       first | done | rfl
     simp only [Act.put, nm1, nm2, nm3, i64_w]
     refine wpK_ops rfl (fun w1 hu => ?_) ?_
     · clear hu
       go_simp
       first | done | rfl
     simp only [Act.put, nm1, nm2, nm3, i64_w]
     refine wpK_ops rfl (fun w1 hu => ?_) ?_
     · have cl0 := ((hb5.up hu16.out).up ((Up.refl _).drew.trans hu)).cell (o := 1) rfl
       go_simp
       first | done | rfl
     simp only [Act.put, nm1, nm2, nm3, i64_w]
     refine wpK_ops rfl (fun w1 hu => ?_) ?_
     · clear hu
       go_simp
       first | done | rfl
     simp only [Act.put, nm1, nm2, nm3, i64_w]
     refine wpK_nil ?_
     intro w23 hu hap
     simp only [List.drop_succ_cons, List.drop_zero]
     replace hu := (Up.refl _).drew.trans hu
     clear hap
     have hu24 := Aside0.mk hu
     clear hu
     refine wpList_nil ?_
     (try simp only [Exit.then, Exit.inBlock, ↓reduceIte, Nat.reduceEqDiff])
     refine hK22 _ _ ?_
     refine wp_cond_true rfl ?_
     refine wp_seq_k (fun K48 hK48 => ?_)
     refine wp_region_lit ?_
     refine wpList_plain rfl (fun Ko hKo => ?_)
     go_simp
     refine hKo _ _ ?_
     clear hKo Ko
     try simp only [Act.put, nm1, nm2, nm3, i64_w]
     refine wpList_nil ?_
     (try simp only [Exit.then, Exit.inBlock, ↓reduceIte, Nat.reduceEqDiff])
     refine hK48 _ _ ?_
     refine wp_ret ?_
     (try simp only [Exit.then, Exit.inBlock, ↓reduceIte, Nat.reduceEqDiff])
     refine hQf _ _ _ ?_
     exact bodyPost_ret (v := .bool false) (by first | rfl | (simp [results, Tryd.results12, go_sem]; done) | (simp [results, Tryd.results12, go_sem]; rfl)) rfl ⟨rfl, (((hu4.out.trans hu7.out).trans hu16.out).trans hu24.out)⟩
 ·
  rw [if_neg c17] at H
  replace c17 := Bool.eq_false_iff.mpr c17
  have c17n : (a0_0 != a1_0) = true := by rw [bne, c17]; rfl
  have c17p : ¬ a0_0 = a1_0 := fun e => by simp [e] at c17
  obtain rfl := Option.some.inj H
  go_enter Tryd.func12, Tryd.ntmps12
  refine wp_hide (fun Qf hQf => ?_)
  refine wp_seq_k (fun K1 hK1 => ?_)
  refine wp_region_lit ?_
  refine step_new (cs := [.int .i64 a0_0, .int .i64 a0_1, .int .i64 a0_2, .int .i64 a0_3]) (T := 23) (f := fun b => .pointer (some ⟨b, 0, none⟩)) rfl (by first | (go_simp; done) | (go_simp; rfl)) ?_
  intro b2 w3 hu lb hb2
  simp only [Act.put, nm1, nm2, nm3, i64_w]
  have lbb2 := Aside0.mk lb
  have ltb2 := Aside0.mk hb2.lt
  clear lb
  have hu4 := Aside0.mk hu
  clear hu
  refine step_new (cs := [.int .i64 a1_0, .int .i64 a1_1, .int .i64 a1_2, .int .i64 a1_3]) (T := 23) (f := fun b => .pointer (some ⟨b, 0, none⟩)) rfl (by first | (go_simp; done) | (go_simp; rfl)) ?_
  intro b5 w6 hu lb hb5
  simp only [Act.put, nm1, nm2, nm3, i64_w]
  have lbb5 := Aside0.mk lb
  have ltb5 := Aside0.mk hb5.lt
  clear lb
  have hu7 := Aside0.mk hu
  clear hu
  refine wpList_plain rfl (fun Ko hKo => ?_)
  go_simp
  refine hKo _ _ ?_
  clear hKo Ko
  try simp only [Act.put, nm1, nm2, nm3, i64_w]
  refine wpList_nil ?_
  (try simp only [Exit.then, Exit.inBlock, ↓reduceIte, Nat.reduceEqDiff])
  refine hK1 _ _ ?_
  refine wp_seq_k (fun K8 hK8 => ?_)
  refine wp_seq_k (fun K9 hK9 => ?_)
  refine wp_region_lit ?_
  refine wpList_plain rfl (fun Ko hKo => ?_)
  go_simp
  refine hKo _ _ ?_
  clear hKo Ko
  try simp only [Act.put, nm1, nm2, nm3, i64_w]
  refine wpList_nil ?_
  (try simp only [Exit.then, Exit.inBlock, ↓reduceIte, Nat.reduceEqDiff])
  refine hK9 _ _ ?_
  refine wp_block ?_
  refine wp_loop_rounds 40 ?_
  refine rounds_k (fun K10 hK10 => ?_)
  refine wp_seq_k (fun K11 hK11 => ?_)
  refine wp_seq_k (fun K12 hK12 => ?_)
  refine wp_region_lit ?_
  refine wpList_plain rfl (fun Ko hKo => ?_)
  go_simp
  refine hKo _ _ ?_
  clear hKo Ko
  try simp only [Act.put, nm1, nm2, nm3, i64_w]
  refine wpList_plain rfl (fun Ko hKo => ?_)
  go_simp
  refine hKo _ _ ?_
  clear hKo Ko
  try simp only [Act.put, nm1, nm2, nm3, i64_w]
  refine wpList_nil ?_
  (try simp only [Exit.then, Exit.inBlock, ↓reduceIte, Nat.reduceEqDiff])
  refine hK12 _ _ ?_
  refine wp_cond_true rfl ?_
  refine wp_skip ?_
  (try simp only [Exit.then, Exit.inBlock, ↓reduceIte, Nat.reduceEqDiff])
  refine hK11 _ _ ?_
  refine wp_seq_k (fun K13 hK13 => ?_)
  refine wp_block ?_
  refine wp_seq_k (fun K14 hK14 => ?_)
  refine' wp_region_up 7 [Slot.det _, Slot.det _, Slot.det _, Slot.det _, Slot.det _, Slot.det _, Slot.det _] (by kernel_rfl) (by kernel_rfl) ?main
  case main =>
   simp only [List.take_succ_cons, List.take_zero]
   refine wpK_ops rfl (fun w1 hu => ?_) ?_
   · clear hu
     go_simp
     first | done | rfl
   simp only [Act.put, nm1, nm2, nm3, i64_w]
   refine wpK_ops rfl (fun w1 hu => ?_) ?_
   · clear hu
     go_simp
     first | done | rfl
   simp only [Act.put, nm1, nm2, nm3, i64_w]
   refine wpK_ops rfl (fun w1 hu => ?_) ?_
   · have cl0 := ((hb2.up hu7.out).up ((Up.refl _).drew.trans hu)).cell (o := 0) rfl
     go_simp
     first | done | rfl
   simp only [Act.put, nm1, nm2, nm3, i64_w]
   refine wpK_ops rfl (fun w1 hu => ?_) ?_
   · clear hu
     go_simp
     first | done | rfl
   simp only [Act.put, nm1, nm2, nm3, i64_w]
   refine wpK_ops rfl (fun w1 hu => ?_) ?_
   · clear hu
     go_simp
     first | done | rfl
   simp only [Act.put, nm1, nm2, nm3, i64_w]
   refine wpK_ops rfl (fun w1 hu => ?_) ?_
   · have cl0 := (hb5.up ((Up.refl _).drew.trans hu)).cell (o := 0) rfl
     go_simp
     first | done | rfl
   simp only [Act.put, nm1, nm2, nm3, i64_w]
   refine wpK_ops rfl (fun w1 hu => ?_) ?_
   · clear hu
     go_simp
     first | done | rfl
   simp only [Act.put, nm1, nm2, nm3, i64_w]
   refine wpK_nil ?_
   intro w15 hu hap
   simp only [List.drop_succ_cons, List.drop_zero]
   replace hu := (Up.refl _).drew.trans hu
   clear hap
   have hu16 := Aside0.mk hu
   clear hu
   refine wpList_nil ?_
   (try simp only [Exit.then, Exit.inBlock, ↓reduceIte, Nat.reduceEqDiff])
   refine hK14 _ _ ?_
   refine wp_cond_true rfl ?_
   refine wp_seq_k (fun K49 hK49 => ?_)
   refine wp_region_lit ?_
   refine wpList_plain rfl (fun Ko hKo => ?_)
   go_simp
   refine hKo _ _ ?_
   clear hKo Ko
   try simp only [Act.put, nm1, nm2, nm3, i64_w]
   refine wpList_nil ?_
   (try simp only [Exit.then, Exit.inBlock, ↓reduceIte, Nat.reduceEqDiff])
   refine hK49 _ _ ?_
   refine wp_ret ?_
   (try simp only [Exit.then, Exit.inBlock, ↓reduceIte, Nat.reduceEqDiff])
   refine hQf _ _ _ ?_
   exact bodyPost_ret (v := .bool false) (by first | rfl | (simp [results, Tryd.results12, go_sem]; done) | (simp [results, Tryd.results12, go_sem]; rfl)) rfl ⟨rfl, ((hu4.out.trans hu7.out).trans hu16.out)⟩

end Go.Proofs.YthpbbnffgfjdbaaDoor
