/- The walks: each of these functions of the program computes what its plain function says: laws_toLine, spec_l01In, spec_l01Field, spec_l01Line, spec_l01Lines, spec_l03Colour, spec_l01Mod, spec_l02Direction, spec_l02Product, spec_l03Null, spec_l01Inverse, spec_l01Times, spec_l01Minus, spec_l07Along, spec_l01Plus, spec_l07Two, spec_l07Lead, spec_l07Reflection. -/
import Derived.Test.YtbibgeoohpgaeaaProg
import Derived.Test.YtbibgeoohpgaeaaD1
import Derived.WalkKit
import Derived.KernelRfl
import Derived.BigQuiet
import Derived.Deep.LoopGhost
import Derived.Laws.StructEq
namespace Go.Proofs.Ytbibgeoohpgaeaa
open Go Go.RowKit
attribute [local go_sem] Oper.quiet Oper.quietAt Oper.quietUpon
attribute [local irreducible] wpList
set_option linter.unusedVariables false
set_option linter.unusedSimpArgs false

set_option maxHeartbeats 4000000 in
set_option maxRecDepth 100000 in
theorem laws_toLine.calls (K : Nat) (a0_0 : Int) (a0_1 : Int) (a0_2 : Int) (r0 : Int) (r1 : Int) (r2 : Int) (w : World)  (h : laws_toLine.f K a0_0 a0_1 a0_2 = some (r0, r1, r2)) :
    Calls Try.prog 33 #[.agg #[.int .i64 a0_0, .int .i64 a0_1, .int .i64 a0_2]] w fun e w' => e = .returned (.agg #[.int .i64 r0, .int .i64 r1, .int .i64 r2]) ∧ Up w w' := by
 have H : (some (a0_0, a0_1, a0_2) : Option (Int × Int × Int)) = some (r0, r1, r2) := h
 clear h
 simp only [Option.some.injEq, Prod.mk.injEq] at H
 obtain ⟨rfl, rfl, rfl⟩ := H
 go_enter Try.func33, Try.ntmps33
 refine wp_hide (fun Qf hQf => ?_)
 refine wp_seq_k (fun K1 hK1 => ?_)
 refine wp_region_lit ?_
 refine step_new (cs := [.int .i64 a0_0, .int .i64 a0_1, .int .i64 a0_2]) (T := 52) (f := fun b => .pointer (some ⟨b, 0, none⟩)) rfl (by first | (go_simp; done) | (go_simp; rfl)) ?_
 intro b2 w3 hu lb hb2
 simp only [Act.put, nm1, nm2, nm3, i64_w]
 have lbb2 := Aside0.mk lb
 have ltb2 := Aside0.mk hb2.lt
 clear lb
 have hu4 := Aside0.mk hu
 clear hu
 refine step_new (cs := [.int .i64 0, .int .i64 0, .int .i64 0]) (T := 54) (f := fun b => .pointer (some ⟨b, 0, none⟩)) rfl (by first | (go_simp; done) | (go_simp; rfl)) ?_
 intro b5 w6 hu lb hb5
 simp only [Act.put, nm1, nm2, nm3, i64_w]
 have lbb5 := Aside0.mk lb
 have ltb5 := Aside0.mk hb5.lt
 clear lb
 have hu7 := Aside0.mk hu
 clear hu
 refine wpList_nil ?_
 (try simp only [Exit.then, Exit.inBlock, ↓reduceIte, Nat.reduceEqDiff])
 refine hK1 _ _ ?_
 refine wp_seq_k (fun K8 hK8 => ?_)
 refine wp_region_lit ?_
 refine step_new (cs := [.int .i64 0, .int .i64 0, .int .i64 0]) (T := 54) (f := fun b => .pointer (some ⟨b, 0, none⟩)) rfl (by first | (go_simp; done) | (go_simp; rfl)) ?_
 intro b9 w10 hu lb hb9
 simp only [Act.put, nm1, nm2, nm3, i64_w]
 have lbb9 := Aside0.mk lb
 have ltb9 := Aside0.mk hb9.lt
 clear lb
 have hu11 := Aside0.mk hu
 clear hu
 refine wpList_nil ?_
 (try simp only [Exit.then, Exit.inBlock, ↓reduceIte, Nat.reduceEqDiff])
 refine hK8 _ _ ?_
 refine wp_seq_k (fun K12 hK12 => ?_)
 refine wp_seq_k (fun K13 hK13 => ?_)
 refine wp_region_lit ?_
 refine wpList_plain rfl (fun Ko hKo => ?_)
 go_simp
 refine hKo _ _ ?_
 clear hKo Ko
 try simp only [Act.put, nm1, nm2, nm3, i64_w]
 refine wpList_nil ?_
 (try simp only [Exit.then, Exit.inBlock, ↓reduceIte, Nat.reduceEqDiff])
 refine hK13 _ _ ?_
 refine wp_block ?_
 refine wp_loop_rounds 40 ?_
 refine rounds_k (fun K14 hK14 => ?_)
 refine wp_seq_k (fun K15 hK15 => ?_)
 refine wp_seq_k (fun K16 hK16 => ?_)
 refine wp_region_lit ?_
 refine wpList_plain rfl (fun Ko hKo => ?_)
 go_simp
 refine hKo _ _ ?_
 clear hKo Ko
 try simp only [Act.put, nm1, nm2, nm3, i64_w]
 refine wpList_plain rfl (fun Ko hKo => ?_)
 go_simp
 refine hKo _ _ ?_
 clear hKo Ko
 try simp only [Act.put, nm1, nm2, nm3, i64_w]
 refine wpList_nil ?_
 (try simp only [Exit.then, Exit.inBlock, ↓reduceIte, Nat.reduceEqDiff])
 refine hK16 _ _ ?_
 refine wp_cond_true rfl ?_
 refine wp_skip ?_
 (try simp only [Exit.then, Exit.inBlock, ↓reduceIte, Nat.reduceEqDiff])
 refine hK15 _ _ ?_
 refine wp_seq_k (fun K17 hK17 => ?_)
 refine wp_block ?_
 refine wp_region_lit ?_
 refine wpList_plain rfl (fun Ko hKo => ?_)
 go_simp
 refine hKo _ _ ?_
 clear hKo Ko
 try simp only [Act.put, nm1, nm2, nm3, i64_w]
 refine wpList_plain rfl (fun Ko hKo => ?_)
 go_simp
 refine hKo _ _ ?_
 clear hKo Ko
 try simp only [Act.put, nm1, nm2, nm3, i64_w]
 refine wpList_plain rfl (fun Ko hKo => ?_)
 go_simp
 refine hKo _ _ ?_
 clear hKo Ko
 try simp only [Act.put, nm1, nm2, nm3, i64_w]
 have cl0 := (hb2.up (hu7.out.trans hu11.out)).cell (o := 0) rfl
 refine wpList_plain rfl (fun Ko hKo => ?_)
 go_simp
 refine hKo _ _ ?_
 clear hKo Ko
 clear cl0
 try simp only [Act.put, nm1, nm2, nm3, i64_w]
 refine wpList_plain rfl (fun Ko hKo => ?_)
 go_simp
 refine hKo _ _ ?_
 clear hKo Ko
 try simp only [Act.put, nm1, nm2, nm3, i64_w]
 have hB0 := hb9
 have cl0 := hB0.cell (o := 0) rfl
 have fr0 := hB0.free 0
 refine step_store (b := b9) (cs' := [.int .i64 a0_0, .int .i64 0, .int .i64 0]) (T := 54) (W' := (w10.setCell ⟨b9, 0, none⟩ (.int .i64 a0_0))) rfl rfl (by first | (go_simp; done) | (go_simp; rfl)) ((Sto.refl _ _).setCell 0 _) ((hB0).setCell 0 _) ?_
 clear hB0 cl0 fr0
 intro w18 hs hb20
 have hs19 := Aside0.mk hs
 clear hs
 refine wpList_nil ?_
 (try simp only [Exit.then, Exit.inBlock, ↓reduceIte, Nat.reduceEqDiff])
 refine hK17 _ _ ?_
 refine wp_region_lit ?_
 refine wpList_plain rfl (fun Ko hKo => ?_)
 go_simp
 refine hKo _ _ ?_
 clear hKo Ko
 try simp only [Act.put, nm1, nm2, nm3, i64_w]
 refine wpList_plain rfl (fun Ko hKo => ?_)
 go_simp
 refine hKo _ _ ?_
 clear hKo Ko
 try simp only [Act.put, nm1, nm2, nm3, i64_w]
 try simp only [show wrap64 1 = 1 from wlit rfl]
 refine wpList_plain rfl (fun Ko hKo => ?_)
 go_simp
 refine hKo _ _ ?_
 clear hKo Ko
 try simp only [Act.put, nm1, nm2, nm3, i64_w]
 refine wpList_nil ?_
 (try simp only [Exit.then, Exit.inBlock, ↓reduceIte, Nat.reduceEqDiff])
 refine hK14 _ _ ?_
 refine rounds_k (fun K21 hK21 => ?_)
 refine wp_seq_k (fun K22 hK22 => ?_)
 refine wp_seq_k (fun K23 hK23 => ?_)
 refine wp_region_lit ?_
 refine wpList_plain rfl (fun Ko hKo => ?_)
 go_simp
 refine hKo _ _ ?_
 clear hKo Ko
 try simp only [Act.put, nm1, nm2, nm3, i64_w]
 refine wpList_plain rfl (fun Ko hKo => ?_)
 go_simp
 refine hKo _ _ ?_
 clear hKo Ko
 try simp only [Act.put, nm1, nm2, nm3, i64_w]
 refine wpList_nil ?_
 (try simp only [Exit.then, Exit.inBlock, ↓reduceIte, Nat.reduceEqDiff])
 refine hK23 _ _ ?_
 refine wp_cond_true rfl ?_
 refine wp_skip ?_
 (try simp only [Exit.then, Exit.inBlock, ↓reduceIte, Nat.reduceEqDiff])
 refine hK22 _ _ ?_
 refine wp_seq_k (fun K24 hK24 => ?_)
 refine wp_block ?_
 refine wp_region_lit ?_
 refine wpList_plain rfl (fun Ko hKo => ?_)
 go_simp
 refine hKo _ _ ?_
 clear hKo Ko
 try simp only [Act.put, nm1, nm2, nm3, i64_w]
 refine wpList_plain rfl (fun Ko hKo => ?_)
 go_simp
 refine hKo _ _ ?_
 clear hKo Ko
 try simp only [Act.put, nm1, nm2, nm3, i64_w]
 refine wpList_plain rfl (fun Ko hKo => ?_)
 go_simp
 refine hKo _ _ ?_
 clear hKo Ko
 try simp only [Act.put, nm1, nm2, nm3, i64_w]
 have cl0 := (hb2.up ((hu7.out.trans hu11.out).sto (Nat.le_trans (hu7.out.size) lbb9.out) hs19.out)).cell (o := 1) rfl
 refine wpList_plain rfl (fun Ko hKo => ?_)
 go_simp
 refine hKo _ _ ?_
 clear hKo Ko
 clear cl0
 try simp only [Act.put, nm1, nm2, nm3, i64_w]
 refine wpList_plain rfl (fun Ko hKo => ?_)
 go_simp
 refine hKo _ _ ?_
 clear hKo Ko
 try simp only [Act.put, nm1, nm2, nm3, i64_w]
 have hB0 := hb20
 have cl0 := hB0.cell (o := 1) rfl
 have fr0 := hB0.free 1
 refine step_store (b := b9) (cs' := [.int .i64 a0_0, .int .i64 a0_1, .int .i64 0]) (T := 54) (W' := (w18.setCell ⟨b9, 1, none⟩ (.int .i64 a0_1))) rfl rfl (by first | (go_simp; done) | (go_simp; rfl)) ((Sto.refl _ _).setCell 1 _) ((hB0).setCell 1 _) ?_
 clear hB0 cl0 fr0
 intro w25 hs hb27
 have hs26 := Aside0.mk hs
 clear hs
 refine wpList_nil ?_
 (try simp only [Exit.then, Exit.inBlock, ↓reduceIte, Nat.reduceEqDiff])
 refine hK24 _ _ ?_
 refine wp_region_lit ?_
 refine wpList_plain rfl (fun Ko hKo => ?_)
 go_simp
 refine hKo _ _ ?_
 clear hKo Ko
 try simp only [Act.put, nm1, nm2, nm3, i64_w]
 refine wpList_plain rfl (fun Ko hKo => ?_)
 go_simp
 refine hKo _ _ ?_
 clear hKo Ko
 try simp only [Act.put, nm1, nm2, nm3, i64_w]
 try simp only [show wrap64 2 = 2 from wlit rfl]
 refine wpList_plain rfl (fun Ko hKo => ?_)
 go_simp
 refine hKo _ _ ?_
 clear hKo Ko
 try simp only [Act.put, nm1, nm2, nm3, i64_w]
 refine wpList_nil ?_
 (try simp only [Exit.then, Exit.inBlock, ↓reduceIte, Nat.reduceEqDiff])
 refine hK21 _ _ ?_
 refine rounds_k (fun K28 hK28 => ?_)
 refine wp_seq_k (fun K29 hK29 => ?_)
 refine wp_seq_k (fun K30 hK30 => ?_)
 refine wp_region_lit ?_
 refine wpList_plain rfl (fun Ko hKo => ?_)
 go_simp
 refine hKo _ _ ?_
 clear hKo Ko
 try simp only [Act.put, nm1, nm2, nm3, i64_w]
 refine wpList_plain rfl (fun Ko hKo => ?_)
 go_simp
 refine hKo _ _ ?_
 clear hKo Ko
 try simp only [Act.put, nm1, nm2, nm3, i64_w]
 refine wpList_nil ?_
 (try simp only [Exit.then, Exit.inBlock, ↓reduceIte, Nat.reduceEqDiff])
 refine hK30 _ _ ?_
 refine wp_cond_true rfl ?_
 refine wp_skip ?_
 (try simp only [Exit.then, Exit.inBlock, ↓reduceIte, Nat.reduceEqDiff])
 refine hK29 _ _ ?_
 refine wp_seq_k (fun K31 hK31 => ?_)
 refine wp_block ?_
 refine wp_region_lit ?_
 refine wpList_plain rfl (fun Ko hKo => ?_)
 go_simp
 refine hKo _ _ ?_
 clear hKo Ko
 try simp only [Act.put, nm1, nm2, nm3, i64_w]
 refine wpList_plain rfl (fun Ko hKo => ?_)
 go_simp
 refine hKo _ _ ?_
 clear hKo Ko
 try simp only [Act.put, nm1, nm2, nm3, i64_w]
 refine wpList_plain rfl (fun Ko hKo => ?_)
 go_simp
 refine hKo _ _ ?_
 clear hKo Ko
 try simp only [Act.put, nm1, nm2, nm3, i64_w]
 have cl0 := (hb2.up (((hu7.out.trans hu11.out).sto (Nat.le_trans (hu7.out.size) lbb9.out) hs19.out).sto (Nat.le_trans (hu7.out.size) lbb9.out) hs26.out)).cell (o := 2) rfl
 refine wpList_plain rfl (fun Ko hKo => ?_)
 go_simp
 refine hKo _ _ ?_
 clear hKo Ko
 clear cl0
 try simp only [Act.put, nm1, nm2, nm3, i64_w]
 refine wpList_plain rfl (fun Ko hKo => ?_)
 go_simp
 refine hKo _ _ ?_
 clear hKo Ko
 try simp only [Act.put, nm1, nm2, nm3, i64_w]
 have hB0 := hb27
 have cl0 := hB0.cell (o := 2) rfl
 have fr0 := hB0.free 2
 refine step_store (b := b9) (cs' := [.int .i64 a0_0, .int .i64 a0_1, .int .i64 a0_2]) (T := 54) (W' := (w25.setCell ⟨b9, 2, none⟩ (.int .i64 a0_2))) rfl rfl (by first | (go_simp; done) | (go_simp; rfl)) ((Sto.refl _ _).setCell 2 _) ((hB0).setCell 2 _) ?_
 clear hB0 cl0 fr0
 intro w32 hs hb34
 have hs33 := Aside0.mk hs
 clear hs
 refine wpList_nil ?_
 (try simp only [Exit.then, Exit.inBlock, ↓reduceIte, Nat.reduceEqDiff])
 refine hK31 _ _ ?_
 refine wp_region_lit ?_
 refine wpList_plain rfl (fun Ko hKo => ?_)
 go_simp
 refine hKo _ _ ?_
 clear hKo Ko
 try simp only [Act.put, nm1, nm2, nm3, i64_w]
 refine wpList_plain rfl (fun Ko hKo => ?_)
 go_simp
 refine hKo _ _ ?_
 clear hKo Ko
 try simp only [Act.put, nm1, nm2, nm3, i64_w]
 try simp only [show wrap64 3 = 3 from wlit rfl]
 refine wpList_plain rfl (fun Ko hKo => ?_)
 go_simp
 refine hKo _ _ ?_
 clear hKo Ko
 try simp only [Act.put, nm1, nm2, nm3, i64_w]
 refine wpList_nil ?_
 (try simp only [Exit.then, Exit.inBlock, ↓reduceIte, Nat.reduceEqDiff])
 refine hK28 _ _ ?_
 refine rounds_k (fun K35 hK35 => ?_)
 refine wp_seq_k (fun K36 hK36 => ?_)
 refine wp_seq_k (fun K37 hK37 => ?_)
 refine wp_region_lit ?_
 refine wpList_plain rfl (fun Ko hKo => ?_)
 go_simp
 refine hKo _ _ ?_
 clear hKo Ko
 try simp only [Act.put, nm1, nm2, nm3, i64_w]
 refine wpList_plain rfl (fun Ko hKo => ?_)
 go_simp
 refine hKo _ _ ?_
 clear hKo Ko
 try simp only [Act.put, nm1, nm2, nm3, i64_w]
 refine wpList_nil ?_
 (try simp only [Exit.then, Exit.inBlock, ↓reduceIte, Nat.reduceEqDiff])
 refine hK37 _ _ ?_
 refine wp_cond_false rfl ?_
 refine wp_exit ?_
 (try simp only [Exit.then, Exit.inBlock, ↓reduceIte, Nat.reduceEqDiff])
 refine hK12 _ _ ?_
 refine wp_seq_k (fun K38 hK38 => ?_)
 refine wp_region_lit ?_
 have cl0 := hb34.cell (o := 0) rfl
 have cl1 := hb34.cell (o := 1) rfl
 have cl2 := hb34.cell (o := 2) rfl
 refine wpList_plain rfl (fun Ko hKo => ?_)
 go_simp
 refine hKo _ _ ?_
 clear hKo Ko
 clear cl0 cl1 cl2
 try simp only [Act.put, nm1, nm2, nm3, i64_w]
 have hB0 := (hb5.up (((hu11.out.sto (Nat.le_trans (Nat.le_refl _) lbb9.out) hs19.out).sto (Nat.le_trans (Nat.le_refl _) lbb9.out) hs26.out).sto (Nat.le_trans (Nat.le_refl _) lbb9.out) hs33.out))
 have cl0 := hB0.cell (o := 0) rfl
 have fr0 := hB0.free 0
 have cl1 := hB0.cell (o := 1) rfl
 have fr1 := hB0.free 1
 have cl2 := hB0.cell (o := 2) rfl
 have fr2 := hB0.free 2
 refine step_store (b := b5) (cs' := [.int .i64 a0_0, .int .i64 a0_1, .int .i64 a0_2]) (T := 54) (W' := (((w32.setCell ⟨b5, 0, none⟩ (.int .i64 a0_0)).setCell ⟨b5, 1, none⟩ (.int .i64 a0_1)).setCell ⟨b5, 2, none⟩ (.int .i64 a0_2))) rfl rfl (by first | (go_simp; done) | (go_simp; rfl)) ((((Sto.refl _ _).setCell 0 _).setCell 1 _).setCell 2 _) ((((hB0).setCell 0 _).setCell 1 _).setCell 2 _) ?_
 clear hB0 cl0 fr0 cl1 fr1 cl2 fr2
 intro w39 hs hb41
 have hs40 := Aside0.mk hs
 clear hs
 have h42 := hb34.sto hs40.out (Ne.symm (Nat.ne_of_lt (Nat.lt_of_lt_of_le ltb5.out lbb9.out)))
 refine wpList_nil ?_
 (try simp only [Exit.then, Exit.inBlock, ↓reduceIte, Nat.reduceEqDiff])
 refine hK38 _ _ ?_
 refine wp_ret ?_
 (try simp only [Exit.then, Exit.inBlock, ↓reduceIte, Nat.reduceEqDiff])
 refine hQf _ _ _ ?_
 have cr0 := hb41.cell (o := 0) rfl
 have cr1 := hb41.cell (o := 1) rfl
 have cr2 := hb41.cell (o := 2) rfl
 exact bodyPost_ret (v := .agg #[.int .i64 a0_0, .int .i64 a0_1, .int .i64 a0_2]) (by first | rfl | (simp [results, Try.results33, go_sem, cr0, cr1, cr2]; done) | (simp [results, Try.results33, go_sem, cr0, cr1, cr2]; rfl)) rfl ⟨rfl, ((((((hu4.out.trans hu7.out).trans hu11.out).sto (Nat.le_trans ((Nat.le_trans (hu4.out.size) hu7.out.size)) lbb9.out) hs19.out).sto (Nat.le_trans ((Nat.le_trans (hu4.out.size) hu7.out.size)) lbb9.out) hs26.out).sto (Nat.le_trans ((Nat.le_trans (hu4.out.size) hu7.out.size)) lbb9.out) hs33.out).sto (Nat.le_trans (hu4.out.size) lbb5.out) hs40.out)⟩

set_option maxHeartbeats 4000000 in
set_option maxRecDepth 100000 in
theorem spec_l01In.calls (K : Nat) (a0 : Int) (a1 : Int) (a2 : Int) (r0 : Bool) (w : World)  (h : spec_l01In.f K a0 a1 a2 = some (r0)) :
    Calls Try.prog 90 #[.int .i64 a0, .int .i64 a1, .int .i64 a2] w fun e w' => e = .returned (.bool r0) ∧ Up w w' := by
 have H : ((if decide (a1 ≤ a0) = true then some (decide (a0 ≤ a2)) else some false) : Option (Bool)) = some (r0) := h
 clear h
 by_cases c3 : (decide (a1 ≤ a0)) = true
 ·
  rw [if_pos c3] at H
  obtain rfl := Option.some.inj H
  go_enter Try.func90, Try.ntmps90
  refine wp_hide (fun Qf hQf => ?_)
  refine wp_seq_k (fun K1 hK1 => ?_)
  refine wp_region_lit ?_
  refine wpList_plain rfl (fun Ko hKo => ?_)
  go_simp
  refine hKo _ _ ?_
  clear hKo Ko
  try simp only [Act.put, nm1, nm2, nm3, i64_w]
  refine wpList_nil ?_
  (try simp only [Exit.then, Exit.inBlock, ↓reduceIte, Nat.reduceEqDiff])
  refine hK1 _ _ ?_
  refine wp_seq_k (fun K2 hK2 => ?_)
  refine wp_region_lit ?_
  refine wpList_plain rfl (fun Ko hKo => ?_)
  go_simp
  refine hKo _ _ ?_
  clear hKo Ko
  try simp only [Act.put, nm1, nm2, nm3, i64_w]
  refine wpList_plain rfl (fun Ko hKo => ?_)
  go_simp
  refine hKo _ _ ?_
  clear hKo Ko
  try simp only [Act.put, nm1, nm2, nm3, i64_w]
  refine wpList_plain rfl (fun Ko hKo => ?_)
  go_simp
  refine hKo _ _ ?_
  clear hKo Ko
  try simp only [Act.put, nm1, nm2, nm3, i64_w]
  refine wpList_plain rfl (fun Ko hKo => ?_)
  go_simp
  refine hKo _ _ ?_
  clear hKo Ko
  try simp only [Act.put, nm1, nm2, nm3, i64_w]
  refine wpList_step (fun Ko hKo => ?_)
  go_simp
  refine hKo _ _ ?_
  clear hKo Ko
  try simp only [Act.put, nm1, nm2, nm3, i64_w]
  refine wpList_step (fun Ko hKo => ?_)
  go_simp
  refine hKo _ _ ?_
  clear hKo Ko
  try simp only [Act.put, nm1, nm2, nm3, i64_w]
  refine wpList_step (fun Ko hKo => ?_)
  go_simp
  refine hKo _ _ ?_
  clear hKo Ko
  try simp only [Act.put, nm1, nm2, nm3, i64_w]
  refine wpList_plain rfl (fun Ko hKo => ?_)
  go_simp
  refine hKo _ _ ?_
  clear hKo Ko
  try simp only [Act.put, nm1, nm2, nm3, i64_w]
  refine wpList_plain rfl (fun Ko hKo => ?_)
  go_simp
  refine hKo _ _ ?_
  clear hKo Ko
  try simp only [Act.put, nm1, nm2, nm3, i64_w]
  refine wpList_nil ?_
  (try simp only [Exit.then, Exit.inBlock, ↓reduceIte, Nat.reduceEqDiff])
  refine hK2 _ _ ?_
  refine wp_ret ?_
  (try simp only [Exit.then, Exit.inBlock, ↓reduceIte, Nat.reduceEqDiff])
  refine hQf _ _ _ ?_
  exact bodyPost_ret (v := .bool (decide (a0 ≤ a2))) (by first | rfl | (simp [results, Try.results90, go_sem]; done) | (simp [results, Try.results90, go_sem]; rfl)) rfl ⟨rfl, (Up.refl _)⟩
 ·
  rw [if_neg c3] at H
  replace c3 := Bool.eq_false_iff.mpr c3
  obtain rfl := Option.some.inj H
  go_enter Try.func90, Try.ntmps90
  refine wp_hide (fun Qf hQf => ?_)
  refine wp_seq_k (fun K1 hK1 => ?_)
  refine wp_region_lit ?_
  refine wpList_plain rfl (fun Ko hKo => ?_)
  go_simp
  refine hKo _ _ ?_
  clear hKo Ko
  try simp only [Act.put, nm1, nm2, nm3, i64_w]
  refine wpList_nil ?_
  (try simp only [Exit.then, Exit.inBlock, ↓reduceIte, Nat.reduceEqDiff])
  refine hK1 _ _ ?_
  refine wp_seq_k (fun K2 hK2 => ?_)
  refine wp_region_lit ?_
  refine wpList_plain rfl (fun Ko hKo => ?_)
  go_simp
  refine hKo _ _ ?_
  clear hKo Ko
  try simp only [Act.put, nm1, nm2, nm3, i64_w]
  refine wpList_plain rfl (fun Ko hKo => ?_)
  go_simp
  refine hKo _ _ ?_
  clear hKo Ko
  try simp only [Act.put, nm1, nm2, nm3, i64_w]
  refine wpList_plain rfl (fun Ko hKo => ?_)
  go_simp
  refine hKo _ _ ?_
  clear hKo Ko
  try simp only [Act.put, nm1, nm2, nm3, i64_w]
  refine wpList_plain rfl (fun Ko hKo => ?_)
  go_simp
  refine hKo _ _ ?_
  clear hKo Ko
  try simp only [Act.put, nm1, nm2, nm3, i64_w]
  refine step_no rfl ?_
  simp only [Act.put, nm1, nm2, nm3, i64_w]
  refine step_no rfl ?_
  simp only [Act.put, nm1, nm2, nm3, i64_w]
  refine step_no rfl ?_
  simp only [Act.put, nm1, nm2, nm3, i64_w]
  refine wpList_plain rfl (fun Ko hKo => ?_)
  go_simp
  refine hKo _ _ ?_
  clear hKo Ko
  try simp only [Act.put, nm1, nm2, nm3, i64_w]
  refine wpList_plain rfl (fun Ko hKo => ?_)
  go_simp
  refine hKo _ _ ?_
  clear hKo Ko
  try simp only [Act.put, nm1, nm2, nm3, i64_w]
  refine wpList_nil ?_
  (try simp only [Exit.then, Exit.inBlock, ↓reduceIte, Nat.reduceEqDiff])
  refine hK2 _ _ ?_
  refine wp_ret ?_
  (try simp only [Exit.then, Exit.inBlock, ↓reduceIte, Nat.reduceEqDiff])
  refine hQf _ _ _ ?_
  exact bodyPost_ret (v := .bool false) (by first | rfl | (simp [results, Try.results90, go_sem]; done) | (simp [results, Try.results90, go_sem]; rfl)) rfl ⟨rfl, (Up.refl _)⟩

set_option maxHeartbeats 4000000 in
set_option maxRecDepth 100000 in
theorem spec_l01Field.calls (K : Nat) (a0 : Int) (r0 : Bool) (w : World)  (h : spec_l01Field.f K a0 = some (r0)) :
    Calls Try.prog 87 #[.int .i64 a0] w fun e w' => e = .returned (.bool r0) ∧ Up w w' := by
 have H : (((spec_l01In.f K a0 3 31).bind fun t4 => (if t4 = true then (spec_l01Field.l0 K a0 K 2) else some false)) : Option (Bool)) = some (r0) := h
 clear h
 replace H := Option.bind_eq_some_iff.mp H
 obtain ⟨t4, A5, H⟩ := H
 replace A5 := Aside0.mk A5
 try dsimp only at H
 by_cases c8 : (t4) = true
 ·
  rw [if_pos c8] at H
  subst c8
  go_enter Try.func87, Try.ntmps87
  refine wp_hide (fun Qf hQf => ?_)
  refine wp_seq_k (fun K1 hK1 => ?_)
  refine wp_region_lit ?_
  refine wpList_plain rfl (fun Ko hKo => ?_)
  go_simp
  refine hKo _ _ ?_
  clear hKo Ko
  try simp only [Act.put, nm1, nm2, nm3, i64_w]
  refine wpList_nil ?_
  (try simp only [Exit.then, Exit.inBlock, ↓reduceIte, Nat.reduceEqDiff])
  refine hK1 _ _ ?_
  refine wp_seq_k (fun K2 hK2 => ?_)
  refine wp_seq_k (fun K3 hK3 => ?_)
  refine wp_region_lit ?_
  refine wpList_plain rfl (fun Ko hKo => ?_)
  go_simp
  refine hKo _ _ ?_
  clear hKo Ko
  try simp only [Act.put, nm1, nm2, nm3, i64_w]
  refine step_call (wanted_none rfl) (by first | (go_simp; done) | (go_simp; rfl)) (spec_l01In.calls K a0 3 31 true w  A5.out) ?_
  rintro e w6 ⟨rfl, hu⟩
  have hu7 := Aside0.mk hu
  clear hu
  refine ⟨_, rfl, ?_⟩
  simp only [Act.put, nm1, nm2, nm3, i64_w]
  refine wpList_plain rfl (fun Ko hKo => ?_)
  go_simp
  refine hKo _ _ ?_
  clear hKo Ko
  try simp only [Act.put, nm1, nm2, nm3, i64_w]
  refine wpList_nil ?_
  (try simp only [Exit.then, Exit.inBlock, ↓reduceIte, Nat.reduceEqDiff])
  refine hK3 _ _ ?_
  refine wp_cond_false rfl ?_
  refine wp_skip ?_
  (try simp only [Exit.then, Exit.inBlock, ↓reduceIte, Nat.reduceEqDiff])
  refine hK2 _ _ ?_
  refine wp_seq_k (fun K9 hK9 => ?_)
  refine wp_seq_k (fun K10 hK10 => ?_)
  refine wp_region_lit ?_
  refine wpList_plain rfl (fun Ko hKo => ?_)
  go_simp
  refine hKo _ _ ?_
  clear hKo Ko
  try simp only [Act.put, nm1, nm2, nm3, i64_w]
  refine wpList_nil ?_
  (try simp only [Exit.then, Exit.inBlock, ↓reduceIte, Nat.reduceEqDiff])
  refine hK10 _ _ ?_
  refine wp_block ?_
  have HL15 := Aside0.mk H
  clear H
  go_loopg [3] K (fun kq v3 w' => ∃ (x11 : Int), v3 = .int .i64 x11 ∧ Aside0 (spec_l01Field.l0 K a0 kq x11 = some (r0)) ∧ Aside0 (kq ≤ K) ∧ Aside0 (Up w6 w') ∧ Aside0 (w6.heap.size ≤ w'.heap.size))
  case atStart => exact ⟨2, (by first | rfl | simp), HL15, ⟨Nat.le_refl _⟩, ⟨(Up.refl _)⟩, ⟨Nat.le_refl _⟩⟩
  case round =>
   rename_i J19 K20 hJ19 hK20
   obtain ⟨x11, rfl, HL18, hk17, hu13, hz14⟩ := hrel
   obtain ⟨w12, rfl⟩ : ∃ wo : World, wo = wr := ⟨_, rfl⟩
   obtain ⟨k16, rfl⟩ | rfl : (∃ k, gk = k + 1) ∨ gk = 0 := by rcases gk with _ | k; exact .inr rfl; exact .inl ⟨k, rfl⟩
   case inr => exact absurd HL18.out (by simp [spec_l01Field.l0])
   have H := HL18.out
   clear HL18
   rw [spec_l01Field.l0] at H
   by_cases c23 : (decide ((wrap64 (x11 * x11)) ≤ a0)) = true
   ·
    rw [if_pos c23] at H
    by_cases c26 : (x11 == 0) = true
    ·
     rw [if_pos c26] at H
     have c26n : (x11 != 0) = false := by rw [bne, c26]; rfl
     exact absurd H (by simp)
    ·
     rw [if_neg c26] at H
     replace c26 := Bool.eq_false_iff.mpr c26
     have c26n : (x11 != 0) = true := by rw [bne, c26]; rfl
     have c26p : ¬ x11 = 0 := fun e => by simp [e] at c26
     by_cases c27 : ((Int.tmod a0 x11) == 0) = true
     ·
      rw [if_pos c27] at H
      have c27n : ((Int.tmod a0 x11) != 0) = false := by rw [bne, c27]; rfl
      obtain rfl := Option.some.inj H
      refine wp_seq_k (fun K21 hK21 => ?_)
      refine wp_seq_k (fun K22 hK22 => ?_)
      refine wp_region_lit ?_
      refine wpList_plain rfl (fun Ko hKo => ?_)
      go_simp
      refine hKo _ _ ?_
      clear hKo Ko
      try simp only [Act.put, nm1, nm2, nm3, i64_w]
      refine wpList_plain rfl (fun Ko hKo => ?_)
      go_simp
      refine hKo _ _ ?_
      clear hKo Ko
      try simp only [Act.put, nm1, nm2, nm3, i64_w]
      refine wpList_plain rfl (fun Ko hKo => ?_)
      go_simp
      refine hKo _ _ ?_
      clear hKo Ko
      try simp only [Act.put, nm1, nm2, nm3, i64_w]
      refine wpList_plain rfl (fun Ko hKo => ?_)
      go_simp
      refine hKo _ _ ?_
      clear hKo Ko
      try simp only [Act.put, nm1, nm2, nm3, i64_w]
      refine wpList_plain rfl (fun Ko hKo => ?_)
      go_simp
      refine hKo _ _ ?_
      clear hKo Ko
      try simp only [Act.put, nm1, nm2, nm3, i64_w]
      refine wpList_nil ?_
      (try simp only [Exit.then, Exit.inBlock, ↓reduceIte, Nat.reduceEqDiff])
      refine hK22 _ _ ?_
      refine wp_cond_true rfl ?_
      refine wp_skip ?_
      (try simp only [Exit.then, Exit.inBlock, ↓reduceIte, Nat.reduceEqDiff])
      refine hK21 _ _ ?_
      refine wp_seq_k (fun K24 hK24 => ?_)
      refine wp_block ?_
      refine wp_seq_k (fun K25 hK25 => ?_)
      refine wp_region_lit ?_
      refine wpList_plain rfl (fun Ko hKo => ?_)
      go_simp
      refine hKo _ _ ?_
      clear hKo Ko
      try simp only [Act.put, nm1, nm2, nm3, i64_w]
      refine wpList_plain rfl (fun Ko hKo => ?_)
      go_simp
      refine hKo _ _ ?_
      clear hKo Ko
      try simp only [Act.put, nm1, nm2, nm3, i64_w]
      refine wpList_plain rfl (fun Ko hKo => ?_)
      go_simp
      refine hKo _ _ ?_
      clear hKo Ko
      try simp only [Act.put, nm1, nm2, nm3, i64_w]
      refine wpList_plain rfl (fun Ko hKo => ?_)
      go_simp
      refine hKo _ _ ?_
      clear hKo Ko
      try simp only [Act.put, nm1, nm2, nm3, i64_w]
      refine wpList_nil ?_
      (try simp only [Exit.then, Exit.inBlock, ↓reduceIte, Nat.reduceEqDiff])
      refine hK25 _ _ ?_
      refine wp_cond_true rfl ?_
      refine wp_seq_k (fun K28 hK28 => ?_)
      refine wp_region_lit ?_
      refine wpList_plain rfl (fun Ko hKo => ?_)
      go_simp
      refine hKo _ _ ?_
      clear hKo Ko
      try simp only [Act.put, nm1, nm2, nm3, i64_w]
      refine wpList_nil ?_
      (try simp only [Exit.then, Exit.inBlock, ↓reduceIte, Nat.reduceEqDiff])
      refine hK28 _ _ ?_
      refine wp_ret ?_
      (try simp only [Exit.then, Exit.inBlock, ↓reduceIte, Nat.reduceEqDiff])
      refine hQf _ _ _ ?_
      exact bodyPost_ret (v := .bool false) (by first | rfl | (simp [results, Try.results87, go_sem]; done) | (simp [results, Try.results87, go_sem]; rfl)) rfl ⟨rfl, (hu7.out.trans hu13.out)⟩
     ·
      rw [if_neg c27] at H
      replace c27 := Bool.eq_false_iff.mpr c27
      have c27n : ((Int.tmod a0 x11) != 0) = true := by rw [bne, c27]; rfl
      have c27p : ¬ (Int.tmod a0 x11) = 0 := fun e => by simp [e] at c27
      have HL29 := Aside0.mk H
      clear H
      refine wp_seq_k (fun K21 hK21 => ?_)
      refine wp_seq_k (fun K22 hK22 => ?_)
      refine wp_region_lit ?_
      refine wpList_plain rfl (fun Ko hKo => ?_)
      go_simp
      refine hKo _ _ ?_
      clear hKo Ko
      try simp only [Act.put, nm1, nm2, nm3, i64_w]
      refine wpList_plain rfl (fun Ko hKo => ?_)
      go_simp
      refine hKo _ _ ?_
      clear hKo Ko
      try simp only [Act.put, nm1, nm2, nm3, i64_w]
      refine wpList_plain rfl (fun Ko hKo => ?_)
      go_simp
      refine hKo _ _ ?_
      clear hKo Ko
      try simp only [Act.put, nm1, nm2, nm3, i64_w]
      refine wpList_plain rfl (fun Ko hKo => ?_)
      go_simp
      refine hKo _ _ ?_
      clear hKo Ko
      try simp only [Act.put, nm1, nm2, nm3, i64_w]
      refine wpList_plain rfl (fun Ko hKo => ?_)
      go_simp
      refine hKo _ _ ?_
      clear hKo Ko
      try simp only [Act.put, nm1, nm2, nm3, i64_w]
      refine wpList_nil ?_
      (try simp only [Exit.then, Exit.inBlock, ↓reduceIte, Nat.reduceEqDiff])
      refine hK22 _ _ ?_
      refine wp_cond_true rfl ?_
      refine wp_skip ?_
      (try simp only [Exit.then, Exit.inBlock, ↓reduceIte, Nat.reduceEqDiff])
      refine hK21 _ _ ?_
      refine wp_seq_k (fun K24 hK24 => ?_)
      refine wp_block ?_
      refine wp_seq_k (fun K25 hK25 => ?_)
      refine wp_region_lit ?_
      refine wpList_plain rfl (fun Ko hKo => ?_)
      go_simp
      refine hKo _ _ ?_
      clear hKo Ko
      try simp only [Act.put, nm1, nm2, nm3, i64_w]
      refine wpList_plain rfl (fun Ko hKo => ?_)
      go_simp
      refine hKo _ _ ?_
      clear hKo Ko
      try simp only [Act.put, nm1, nm2, nm3, i64_w]
      refine wpList_plain rfl (fun Ko hKo => ?_)
      go_simp
      refine hKo _ _ ?_
      clear hKo Ko
      try simp only [Act.put, nm1, nm2, nm3, i64_w]
      refine wpList_plain rfl (fun Ko hKo => ?_)
      go_simp
      refine hKo _ _ ?_
      clear hKo Ko
      try simp only [Act.put, nm1, nm2, nm3, i64_w]
      refine wpList_nil ?_
      (try simp only [Exit.then, Exit.inBlock, ↓reduceIte, Nat.reduceEqDiff])
      refine hK25 _ _ ?_
      refine wp_cond_false rfl ?_
      refine wp_skip ?_
      (try simp only [Exit.then, Exit.inBlock, ↓reduceIte, Nat.reduceEqDiff])
      refine hK24 _ _ ?_
      refine wp_region_lit ?_
      refine wpList_plain rfl (fun Ko hKo => ?_)
      go_simp
      refine hKo _ _ ?_
      clear hKo Ko
      try simp only [Act.put, nm1, nm2, nm3, i64_w]
      refine wpList_plain rfl (fun Ko hKo => ?_)
      go_simp
      refine hKo _ _ ?_
      clear hKo Ko
      try simp only [Act.put, nm1, nm2, nm3, i64_w]
      refine wpList_plain rfl (fun Ko hKo => ?_)
      go_simp
      refine hKo _ _ ?_
      clear hKo Ko
      try simp only [Act.put, nm1, nm2, nm3, i64_w]
      refine wpList_nil ?_
      (try simp only [Exit.then, Exit.inBlock, ↓reduceIte, Nat.reduceEqDiff])
      refine hK20 _ _ ?_
      go_roundg k16
      case measure => exact Nat.lt_succ_self _
      case rel => exact ⟨wrap64 (x11 + 1), (by first | rfl | simp), HL29, ⟨by have := hk17.out; omega⟩, ⟨hu13.out⟩, ⟨(Nat.le_trans (Nat.le_refl _) hz14.out)⟩⟩
   ·
    rw [if_neg c23] at H
    replace c23 := Bool.eq_false_iff.mpr c23
    obtain rfl := Option.some.inj H
    refine wp_seq_k (fun K21 hK21 => ?_)
    refine wp_seq_k (fun K22 hK22 => ?_)
    refine wp_region_lit ?_
    refine wpList_plain rfl (fun Ko hKo => ?_)
    go_simp
    refine hKo _ _ ?_
    clear hKo Ko
    try simp only [Act.put, nm1, nm2, nm3, i64_w]
    refine wpList_plain rfl (fun Ko hKo => ?_)
    go_simp
    refine hKo _ _ ?_
    clear hKo Ko
    try simp only [Act.put, nm1, nm2, nm3, i64_w]
    refine wpList_plain rfl (fun Ko hKo => ?_)
    go_simp
    refine hKo _ _ ?_
    clear hKo Ko
    try simp only [Act.put, nm1, nm2, nm3, i64_w]
    refine wpList_plain rfl (fun Ko hKo => ?_)
    go_simp
    refine hKo _ _ ?_
    clear hKo Ko
    try simp only [Act.put, nm1, nm2, nm3, i64_w]
    refine wpList_plain rfl (fun Ko hKo => ?_)
    go_simp
    refine hKo _ _ ?_
    clear hKo Ko
    try simp only [Act.put, nm1, nm2, nm3, i64_w]
    refine wpList_nil ?_
    (try simp only [Exit.then, Exit.inBlock, ↓reduceIte, Nat.reduceEqDiff])
    refine hK22 _ _ ?_
    refine wp_cond_false rfl ?_
    refine wp_exit ?_
    (try simp only [Exit.then, Exit.inBlock, ↓reduceIte, Nat.reduceEqDiff])
    refine hK9 _ _ ?_
    refine wp_seq_k (fun K30 hK30 => ?_)
    refine wp_region_lit ?_
    refine wpList_plain rfl (fun Ko hKo => ?_)
    go_simp
    refine hKo _ _ ?_
    clear hKo Ko
    try simp only [Act.put, nm1, nm2, nm3, i64_w]
    refine wpList_nil ?_
    (try simp only [Exit.then, Exit.inBlock, ↓reduceIte, Nat.reduceEqDiff])
    refine hK30 _ _ ?_
    refine wp_ret ?_
    (try simp only [Exit.then, Exit.inBlock, ↓reduceIte, Nat.reduceEqDiff])
    refine hQf _ _ _ ?_
    exact bodyPost_ret (v := .bool true) (by first | rfl | (simp [results, Try.results87, go_sem]; done) | (simp [results, Try.results87, go_sem]; rfl)) rfl ⟨rfl, (hu7.out.trans hu13.out)⟩
 ·
  rw [if_neg c8] at H
  replace c8 := Bool.eq_false_iff.mpr c8
  subst c8
  obtain rfl := Option.some.inj H
  go_enter Try.func87, Try.ntmps87
  refine wp_hide (fun Qf hQf => ?_)
  refine wp_seq_k (fun K1 hK1 => ?_)
  refine wp_region_lit ?_
  refine wpList_plain rfl (fun Ko hKo => ?_)
  go_simp
  refine hKo _ _ ?_
  clear hKo Ko
  try simp only [Act.put, nm1, nm2, nm3, i64_w]
  refine wpList_nil ?_
  (try simp only [Exit.then, Exit.inBlock, ↓reduceIte, Nat.reduceEqDiff])
  refine hK1 _ _ ?_
  refine wp_seq_k (fun K2 hK2 => ?_)
  refine wp_seq_k (fun K3 hK3 => ?_)
  refine wp_region_lit ?_
  refine wpList_plain rfl (fun Ko hKo => ?_)
  go_simp
  refine hKo _ _ ?_
  clear hKo Ko
  try simp only [Act.put, nm1, nm2, nm3, i64_w]
  refine step_call (wanted_none rfl) (by first | (go_simp; done) | (go_simp; rfl)) (spec_l01In.calls K a0 3 31 false w  A5.out) ?_
  rintro e w6 ⟨rfl, hu⟩
  have hu7 := Aside0.mk hu
  clear hu
  refine ⟨_, rfl, ?_⟩
  simp only [Act.put, nm1, nm2, nm3, i64_w]
  refine wpList_plain rfl (fun Ko hKo => ?_)
  go_simp
  refine hKo _ _ ?_
  clear hKo Ko
  try simp only [Act.put, nm1, nm2, nm3, i64_w]
  refine wpList_nil ?_
  (try simp only [Exit.then, Exit.inBlock, ↓reduceIte, Nat.reduceEqDiff])
  refine hK3 _ _ ?_
  refine wp_cond_true rfl ?_
  refine wp_seq_k (fun K31 hK31 => ?_)
  refine wp_region_lit ?_
  refine wpList_plain rfl (fun Ko hKo => ?_)
  go_simp
  refine hKo _ _ ?_
  clear hKo Ko
  try simp only [Act.put, nm1, nm2, nm3, i64_w]
  refine wpList_nil ?_
  (try simp only [Exit.then, Exit.inBlock, ↓reduceIte, Nat.reduceEqDiff])
  refine hK31 _ _ ?_
  refine wp_ret ?_
  (try simp only [Exit.then, Exit.inBlock, ↓reduceIte, Nat.reduceEqDiff])
  refine hQf _ _ _ ?_
  exact bodyPost_ret (v := .bool false) (by first | rfl | (simp [results, Try.results87, go_sem]; done) | (simp [results, Try.results87, go_sem]; rfl)) rfl ⟨rfl, hu7.out⟩

set_option maxHeartbeats 4000000 in
set_option maxRecDepth 100000 in
theorem spec_l01Line.calls (K : Nat) (a0 : Int) (a1_0 : Int) (a1_1 : Int) (a1_2 : Int) (r0 : Bool) (w : World)  (h : spec_l01Line.f K a0 a1_0 a1_1 a1_2 = some (r0)) :
    Calls Try.prog 88 #[.int .i64 a0, .agg #[.int .i64 a1_0, .int .i64 a1_1, .int .i64 a1_2]] w fun e w' => e = .returned (.bool r0) ∧ Up w w' := by
 have H : (((spec_l01In.f K a1_0 0 (wrap64 (a0 - 1))).bind fun t6 => (if t6 = true then ((spec_l01In.f K a1_1 0 (wrap64 (a0 - 1))).bind fun t11 => (if t11 = true then ((spec_l01In.f K a1_2 0 (wrap64 (a0 - 1))).bind fun t16 => (if t16 = true then (if (a1_0 == 1) = true then some true else (if (a1_0 == 0) = true then some (a1_1 == 1) else some false)) else some false)) else some false)) else some false)) : Option (Bool)) = some (r0) := h
 clear h
 replace H := Option.bind_eq_some_iff.mp H
 obtain ⟨t6, A7, H⟩ := H
 replace A7 := Aside0.mk A7
 try dsimp only at H
 by_cases c10 : (t6) = true
 ·
  rw [if_pos c10] at H
  subst c10
  replace H := Option.bind_eq_some_iff.mp H
  obtain ⟨t11, A12, H⟩ := H
  replace A12 := Aside0.mk A12
  try dsimp only at H
  by_cases c15 : (t11) = true
  ·
   rw [if_pos c15] at H
   subst c15
   replace H := Option.bind_eq_some_iff.mp H
   obtain ⟨t16, A17, H⟩ := H
   replace A17 := Aside0.mk A17
   try dsimp only at H
   by_cases c20 : (t16) = true
   ·
    rw [if_pos c20] at H
    subst c20
    by_cases c21 : (a1_0 == 1) = true
    ·
     rw [if_pos c21] at H
     have c21n : (a1_0 != 1) = false := by rw [bne, c21]; rfl
     obtain rfl := Option.some.inj H
     go_enter Try.func88, Try.ntmps88
     refine wp_hide (fun Qf hQf => ?_)
     refine wp_seq_k (fun K1 hK1 => ?_)
     refine wp_region_lit ?_
     refine step_new (cs := [.int .i64 a1_0, .int .i64 a1_1, .int .i64 a1_2]) (T := 54) (f := fun b => .pointer (some ⟨b, 0, none⟩)) rfl (by first | (go_simp; done) | (go_simp; rfl)) ?_
     intro b2 w3 hu lb hb2
     simp only [Act.put, nm1, nm2, nm3, i64_w]
     have lbb2 := Aside0.mk lb
     have ltb2 := Aside0.mk hb2.lt
     clear lb
     have hu4 := Aside0.mk hu
     clear hu
     refine wpList_plain rfl (fun Ko hKo => ?_)
     go_simp
     refine hKo _ _ ?_
     clear hKo Ko
     try simp only [Act.put, nm1, nm2, nm3, i64_w]
     refine wpList_nil ?_
     (try simp only [Exit.then, Exit.inBlock, ↓reduceIte, Nat.reduceEqDiff])
     refine hK1 _ _ ?_
     refine wp_seq_k (fun K5 hK5 => ?_)
     refine wp_region_lit ?_
     refine wpList_plain rfl (fun Ko hKo => ?_)
     go_simp
     refine hKo _ _ ?_
     clear hKo Ko
     try simp only [Act.put, nm1, nm2, nm3, i64_w]
     have cl0 := hb2.cell (o := 0) rfl
     refine wpList_plain rfl (fun Ko hKo => ?_)
     go_simp
     refine hKo _ _ ?_
     clear hKo Ko
     clear cl0
     try simp only [Act.put, nm1, nm2, nm3, i64_w]
     refine wpList_plain rfl (fun Ko hKo => ?_)
     go_simp
     refine hKo _ _ ?_
     clear hKo Ko
     try simp only [Act.put, nm1, nm2, nm3, i64_w]
     refine wpList_plain rfl (fun Ko hKo => ?_)
     go_simp
     refine hKo _ _ ?_
     clear hKo Ko
     try simp only [Act.put, nm1, nm2, nm3, i64_w]
     refine step_call (wanted_none rfl) (by first | (go_simp; done) | (go_simp; rfl)) (spec_l01In.calls K a1_0 0 (wrap64 (a0 - 1)) true w3  A7.out) ?_
     rintro e w8 ⟨rfl, hu⟩
     have hu9 := Aside0.mk hu
     clear hu
     refine ⟨_, rfl, ?_⟩
     simp only [Act.put, nm1, nm2, nm3, i64_w]
     refine wpList_plain rfl (fun Ko hKo => ?_)
     go_simp
     refine hKo _ _ ?_
     clear hKo Ko
     try simp only [Act.put, nm1, nm2, nm3, i64_w]
     refine wpList_step (fun Ko hKo => ?_)
     go_simp
     refine hKo _ _ ?_
     clear hKo Ko
     try simp only [Act.put, nm1, nm2, nm3, i64_w]
     have cl0 := (hb2.up hu9.out).cell (o := 1) rfl
     refine wpList_step (fun Ko hKo => ?_)
     go_simp
     refine hKo _ _ ?_
     clear hKo Ko
     clear cl0
     try simp only [Act.put, nm1, nm2, nm3, i64_w]
     refine wpList_step (fun Ko hKo => ?_)
     go_simp
     refine hKo _ _ ?_
     clear hKo Ko
     try simp only [Act.put, nm1, nm2, nm3, i64_w]
     refine wpList_step (fun Ko hKo => ?_)
     go_simp
     refine hKo _ _ ?_
     clear hKo Ko
     try simp only [Act.put, nm1, nm2, nm3, i64_w]
     refine step_call rfl (by first | (go_simp; done) | (go_simp; rfl)) (spec_l01In.calls K a1_1 0 (wrap64 (a0 - 1)) true w8  A12.out) ?_
     rintro e w13 ⟨rfl, hu⟩
     have hu14 := Aside0.mk hu
     clear hu
     refine ⟨_, rfl, ?_⟩
     simp only [Act.put, nm1, nm2, nm3, i64_w]
     refine wpList_plain rfl (fun Ko hKo => ?_)
     go_simp
     refine hKo _ _ ?_
     clear hKo Ko
     try simp only [Act.put, nm1, nm2, nm3, i64_w]
     refine wpList_plain rfl (fun Ko hKo => ?_)
     go_simp
     refine hKo _ _ ?_
     clear hKo Ko
     try simp only [Act.put, nm1, nm2, nm3, i64_w]
     refine wpList_step (fun Ko hKo => ?_)
     go_simp
     refine hKo _ _ ?_
     clear hKo Ko
     try simp only [Act.put, nm1, nm2, nm3, i64_w]
     have cl0 := (hb2.up (hu9.out.trans hu14.out)).cell (o := 2) rfl
     refine wpList_step (fun Ko hKo => ?_)
     go_simp
     refine hKo _ _ ?_
     clear hKo Ko
     clear cl0
     try simp only [Act.put, nm1, nm2, nm3, i64_w]
     refine wpList_step (fun Ko hKo => ?_)
     go_simp
     refine hKo _ _ ?_
     clear hKo Ko
     try simp only [Act.put, nm1, nm2, nm3, i64_w]
     refine wpList_step (fun Ko hKo => ?_)
     go_simp
     refine hKo _ _ ?_
     clear hKo Ko
     try simp only [Act.put, nm1, nm2, nm3, i64_w]
     refine step_call rfl (by first | (go_simp; done) | (go_simp; rfl)) (spec_l01In.calls K a1_2 0 (wrap64 (a0 - 1)) true w13  A17.out) ?_
     rintro e w18 ⟨rfl, hu⟩
     have hu19 := Aside0.mk hu
     clear hu
     refine ⟨_, rfl, ?_⟩
     simp only [Act.put, nm1, nm2, nm3, i64_w]
     refine wpList_plain rfl (fun Ko hKo => ?_)
     go_simp
     refine hKo _ _ ?_
     clear hKo Ko
     try simp only [Act.put, nm1, nm2, nm3, i64_w]
     refine wpList_plain rfl (fun Ko hKo => ?_)
     go_simp
     refine hKo _ _ ?_
     clear hKo Ko
     try simp only [Act.put, nm1, nm2, nm3, i64_w]
     refine wpList_step (fun Ko hKo => ?_)
     go_simp
     refine hKo _ _ ?_
     clear hKo Ko
     try simp only [Act.put, nm1, nm2, nm3, i64_w]
     have cl0 := (hb2.up ((hu9.out.trans hu14.out).trans hu19.out)).cell (o := 0) rfl
     refine wpList_step (fun Ko hKo => ?_)
     go_simp
     refine hKo _ _ ?_
     clear hKo Ko
     clear cl0
     try simp only [Act.put, nm1, nm2, nm3, i64_w]
     refine wpList_step (fun Ko hKo => ?_)
     go_simp
     refine hKo _ _ ?_
     clear hKo Ko
     try simp only [Act.put, nm1, nm2, nm3, i64_w]
     refine wpList_step (fun Ko hKo => ?_)
     go_simp
     refine hKo _ _ ?_
     clear hKo Ko
     try simp only [Act.put, nm1, nm2, nm3, i64_w]
     refine step_no rfl ?_
     simp only [Act.put, nm1, nm2, nm3, i64_w]
     refine step_no rfl ?_
     simp only [Act.put, nm1, nm2, nm3, i64_w]
     refine step_no rfl ?_
     simp only [Act.put, nm1, nm2, nm3, i64_w]
     refine step_no rfl ?_
     simp only [Act.put, nm1, nm2, nm3, i64_w]
     refine step_no rfl ?_
     simp only [Act.put, nm1, nm2, nm3, i64_w]
     refine step_no rfl ?_
     simp only [Act.put, nm1, nm2, nm3, i64_w]
     refine step_no rfl ?_
     simp only [Act.put, nm1, nm2, nm3, i64_w]
     refine step_no rfl ?_
     simp only [Act.put, nm1, nm2, nm3, i64_w]
     refine wpList_step (fun Ko hKo => ?_)
     go_simp
     refine hKo _ _ ?_
     clear hKo Ko
     try simp only [Act.put, nm1, nm2, nm3, i64_w]
     refine wpList_plain rfl (fun Ko hKo => ?_)
     go_simp
     refine hKo _ _ ?_
     clear hKo Ko
     try simp only [Act.put, nm1, nm2, nm3, i64_w]
     refine wpList_plain rfl (fun Ko hKo => ?_)
     go_simp
     refine hKo _ _ ?_
     clear hKo Ko
     try simp only [Act.put, nm1, nm2, nm3, i64_w]
     refine wpList_nil ?_
     (try simp only [Exit.then, Exit.inBlock, ↓reduceIte, Nat.reduceEqDiff])
     refine hK5 _ _ ?_
     refine wp_ret ?_
     (try simp only [Exit.then, Exit.inBlock, ↓reduceIte, Nat.reduceEqDiff])
     refine hQf _ _ _ ?_
     exact bodyPost_ret (v := .bool true) (by first | rfl | (simp [results, Try.results88, go_sem]; done) | (simp [results, Try.results88, go_sem]; rfl)) rfl ⟨rfl, (((hu4.out.trans hu9.out).trans hu14.out).trans hu19.out)⟩
    ·
     rw [if_neg c21] at H
     replace c21 := Bool.eq_false_iff.mpr c21
     have c21n : (a1_0 != 1) = true := by rw [bne, c21]; rfl
     have c21p : ¬ a1_0 = 1 := fun e => by simp [e] at c21
     by_cases c22 : (a1_0 == 0) = true
     ·
      rw [if_pos c22] at H
      have c22n : (a1_0 != 0) = false := by rw [bne, c22]; rfl
      obtain rfl := Option.some.inj H
      go_enter Try.func88, Try.ntmps88
      refine wp_hide (fun Qf hQf => ?_)
      refine wp_seq_k (fun K1 hK1 => ?_)
      refine wp_region_lit ?_
      refine step_new (cs := [.int .i64 a1_0, .int .i64 a1_1, .int .i64 a1_2]) (T := 54) (f := fun b => .pointer (some ⟨b, 0, none⟩)) rfl (by first | (go_simp; done) | (go_simp; rfl)) ?_
      intro b2 w3 hu lb hb2
      simp only [Act.put, nm1, nm2, nm3, i64_w]
      have lbb2 := Aside0.mk lb
      have ltb2 := Aside0.mk hb2.lt
      clear lb
      have hu4 := Aside0.mk hu
      clear hu
      refine wpList_plain rfl (fun Ko hKo => ?_)
      go_simp
      refine hKo _ _ ?_
      clear hKo Ko
      try simp only [Act.put, nm1, nm2, nm3, i64_w]
      refine wpList_nil ?_
      (try simp only [Exit.then, Exit.inBlock, ↓reduceIte, Nat.reduceEqDiff])
      refine hK1 _ _ ?_
      refine wp_seq_k (fun K5 hK5 => ?_)
      refine wp_region_lit ?_
      refine wpList_plain rfl (fun Ko hKo => ?_)
      go_simp
      refine hKo _ _ ?_
      clear hKo Ko
      try simp only [Act.put, nm1, nm2, nm3, i64_w]
      have cl0 := hb2.cell (o := 0) rfl
      refine wpList_plain rfl (fun Ko hKo => ?_)
      go_simp
      refine hKo _ _ ?_
      clear hKo Ko
      clear cl0
      try simp only [Act.put, nm1, nm2, nm3, i64_w]
      refine wpList_plain rfl (fun Ko hKo => ?_)
      go_simp
      refine hKo _ _ ?_
      clear hKo Ko
      try simp only [Act.put, nm1, nm2, nm3, i64_w]
      refine wpList_plain rfl (fun Ko hKo => ?_)
      go_simp
      refine hKo _ _ ?_
      clear hKo Ko
      try simp only [Act.put, nm1, nm2, nm3, i64_w]
      refine step_call (wanted_none rfl) (by first | (go_simp; done) | (go_simp; rfl)) (spec_l01In.calls K a1_0 0 (wrap64 (a0 - 1)) true w3  A7.out) ?_
      rintro e w8 ⟨rfl, hu⟩
      have hu9 := Aside0.mk hu
      clear hu
      refine ⟨_, rfl, ?_⟩
      simp only [Act.put, nm1, nm2, nm3, i64_w]
      refine wpList_plain rfl (fun Ko hKo => ?_)
      go_simp
      refine hKo _ _ ?_
      clear hKo Ko
      try simp only [Act.put, nm1, nm2, nm3, i64_w]
      refine wpList_step (fun Ko hKo => ?_)
      go_simp
      refine hKo _ _ ?_
      clear hKo Ko
      try simp only [Act.put, nm1, nm2, nm3, i64_w]
      have cl0 := (hb2.up hu9.out).cell (o := 1) rfl
      refine wpList_step (fun Ko hKo => ?_)
      go_simp
      refine hKo _ _ ?_
      clear hKo Ko
      clear cl0
      try simp only [Act.put, nm1, nm2, nm3, i64_w]
      refine wpList_step (fun Ko hKo => ?_)
      go_simp
      refine hKo _ _ ?_
      clear hKo Ko
      try simp only [Act.put, nm1, nm2, nm3, i64_w]
      refine wpList_step (fun Ko hKo => ?_)
      go_simp
      refine hKo _ _ ?_
      clear hKo Ko
      try simp only [Act.put, nm1, nm2, nm3, i64_w]
      refine step_call rfl (by first | (go_simp; done) | (go_simp; rfl)) (spec_l01In.calls K a1_1 0 (wrap64 (a0 - 1)) true w8  A12.out) ?_
      rintro e w13 ⟨rfl, hu⟩
      have hu14 := Aside0.mk hu
      clear hu
      refine ⟨_, rfl, ?_⟩
      simp only [Act.put, nm1, nm2, nm3, i64_w]
      refine wpList_plain rfl (fun Ko hKo => ?_)
      go_simp
      refine hKo _ _ ?_
      clear hKo Ko
      try simp only [Act.put, nm1, nm2, nm3, i64_w]
      refine wpList_plain rfl (fun Ko hKo => ?_)
      go_simp
      refine hKo _ _ ?_
      clear hKo Ko
      try simp only [Act.put, nm1, nm2, nm3, i64_w]
      refine wpList_step (fun Ko hKo => ?_)
      go_simp
      refine hKo _ _ ?_
      clear hKo Ko
      try simp only [Act.put, nm1, nm2, nm3, i64_w]
      have cl0 := (hb2.up (hu9.out.trans hu14.out)).cell (o := 2) rfl
      refine wpList_step (fun Ko hKo => ?_)
      go_simp
      refine hKo _ _ ?_
      clear hKo Ko
      clear cl0
      try simp only [Act.put, nm1, nm2, nm3, i64_w]
      refine wpList_step (fun Ko hKo => ?_)
      go_simp
      refine hKo _ _ ?_
      clear hKo Ko
      try simp only [Act.put, nm1, nm2, nm3, i64_w]
      refine wpList_step (fun Ko hKo => ?_)
      go_simp
      refine hKo _ _ ?_
      clear hKo Ko
      try simp only [Act.put, nm1, nm2, nm3, i64_w]
      refine step_call rfl (by first | (go_simp; done) | (go_simp; rfl)) (spec_l01In.calls K a1_2 0 (wrap64 (a0 - 1)) true w13  A17.out) ?_
      rintro e w18 ⟨rfl, hu⟩
      have hu19 := Aside0.mk hu
      clear hu
      refine ⟨_, rfl, ?_⟩
      simp only [Act.put, nm1, nm2, nm3, i64_w]
      refine wpList_plain rfl (fun Ko hKo => ?_)
      go_simp
      refine hKo _ _ ?_
      clear hKo Ko
      try simp only [Act.put, nm1, nm2, nm3, i64_w]
      refine wpList_plain rfl (fun Ko hKo => ?_)
      go_simp
      refine hKo _ _ ?_
      clear hKo Ko
      try simp only [Act.put, nm1, nm2, nm3, i64_w]
      refine wpList_step (fun Ko hKo => ?_)
      go_simp
      refine hKo _ _ ?_
      clear hKo Ko
      try simp only [Act.put, nm1, nm2, nm3, i64_w]
      have cl0 := (hb2.up ((hu9.out.trans hu14.out).trans hu19.out)).cell (o := 0) rfl
      refine wpList_step (fun Ko hKo => ?_)
      go_simp
      refine hKo _ _ ?_
      clear hKo Ko
      clear cl0
      try simp only [Act.put, nm1, nm2, nm3, i64_w]
      refine wpList_step (fun Ko hKo => ?_)
      go_simp
      refine hKo _ _ ?_
      clear hKo Ko
      try simp only [Act.put, nm1, nm2, nm3, i64_w]
      refine wpList_step (fun Ko hKo => ?_)
      go_simp
      refine hKo _ _ ?_
      clear hKo Ko
      try simp only [Act.put, nm1, nm2, nm3, i64_w]
      refine wpList_step (fun Ko hKo => ?_)
      go_simp
      refine hKo _ _ ?_
      clear hKo Ko
      try simp only [Act.put, nm1, nm2, nm3, i64_w]
      have cl0 := (hb2.up ((hu9.out.trans hu14.out).trans hu19.out)).cell (o := 0) rfl
      refine wpList_step (fun Ko hKo => ?_)
      go_simp
      refine hKo _ _ ?_
      clear hKo Ko
      clear cl0
      try simp only [Act.put, nm1, nm2, nm3, i64_w]
      refine wpList_step (fun Ko hKo => ?_)
      go_simp
      refine hKo _ _ ?_
      clear hKo Ko
      try simp only [Act.put, nm1, nm2, nm3, i64_w]
      refine wpList_step (fun Ko hKo => ?_)
      go_simp
      refine hKo _ _ ?_
      clear hKo Ko
      try simp only [Act.put, nm1, nm2, nm3, i64_w]
      refine wpList_step (fun Ko hKo => ?_)
      go_simp
      refine hKo _ _ ?_
      clear hKo Ko
      try simp only [Act.put, nm1, nm2, nm3, i64_w]
      have cl0 := (hb2.up ((hu9.out.trans hu14.out).trans hu19.out)).cell (o := 1) rfl
      refine wpList_step (fun Ko hKo => ?_)
      go_simp
      refine hKo _ _ ?_
      clear hKo Ko
      clear cl0
      try simp only [Act.put, nm1, nm2, nm3, i64_w]
      refine wpList_step (fun Ko hKo => ?_)
      go_simp
      refine hKo _ _ ?_
      clear hKo Ko
      try simp only [Act.put, nm1, nm2, nm3, i64_w]
      refine wpList_step (fun Ko hKo => ?_)
      go_simp
      refine hKo _ _ ?_
      clear hKo Ko
      try simp only [Act.put, nm1, nm2, nm3, i64_w]
      refine wpList_step (fun Ko hKo => ?_)
      go_simp
      refine hKo _ _ ?_
      clear hKo Ko
      try simp only [Act.put, nm1, nm2, nm3, i64_w]
      refine wpList_plain rfl (fun Ko hKo => ?_)
      go_simp
      refine hKo _ _ ?_
      clear hKo Ko
      try simp only [Act.put, nm1, nm2, nm3, i64_w]
      refine wpList_plain rfl (fun Ko hKo => ?_)
      go_simp
      refine hKo _ _ ?_
      clear hKo Ko
      try simp only [Act.put, nm1, nm2, nm3, i64_w]
      refine wpList_nil ?_
      (try simp only [Exit.then, Exit.inBlock, ↓reduceIte, Nat.reduceEqDiff])
      refine hK5 _ _ ?_
      refine wp_ret ?_
      (try simp only [Exit.then, Exit.inBlock, ↓reduceIte, Nat.reduceEqDiff])
      refine hQf _ _ _ ?_
      exact bodyPost_ret (v := .bool (a1_1 == 1)) (by first | rfl | (simp [results, Try.results88, go_sem]; done) | (simp [results, Try.results88, go_sem]; rfl)) rfl ⟨rfl, (((hu4.out.trans hu9.out).trans hu14.out).trans hu19.out)⟩
     ·
      rw [if_neg c22] at H
      replace c22 := Bool.eq_false_iff.mpr c22
      have c22n : (a1_0 != 0) = true := by rw [bne, c22]; rfl
      have c22p : ¬ a1_0 = 0 := fun e => by simp [e] at c22
      obtain rfl := Option.some.inj H
      go_enter Try.func88, Try.ntmps88
      refine wp_hide (fun Qf hQf => ?_)
      refine wp_seq_k (fun K1 hK1 => ?_)
      refine wp_region_lit ?_
      refine step_new (cs := [.int .i64 a1_0, .int .i64 a1_1, .int .i64 a1_2]) (T := 54) (f := fun b => .pointer (some ⟨b, 0, none⟩)) rfl (by first | (go_simp; done) | (go_simp; rfl)) ?_
      intro b2 w3 hu lb hb2
      simp only [Act.put, nm1, nm2, nm3, i64_w]
      have lbb2 := Aside0.mk lb
      have ltb2 := Aside0.mk hb2.lt
      clear lb
      have hu4 := Aside0.mk hu
      clear hu
      refine wpList_plain rfl (fun Ko hKo => ?_)
      go_simp
      refine hKo _ _ ?_
      clear hKo Ko
      try simp only [Act.put, nm1, nm2, nm3, i64_w]
      refine wpList_nil ?_
      (try simp only [Exit.then, Exit.inBlock, ↓reduceIte, Nat.reduceEqDiff])
      refine hK1 _ _ ?_
      refine wp_seq_k (fun K5 hK5 => ?_)
      refine wp_region_lit ?_
      refine wpList_plain rfl (fun Ko hKo => ?_)
      go_simp
      refine hKo _ _ ?_
      clear hKo Ko
      try simp only [Act.put, nm1, nm2, nm3, i64_w]
      have cl0 := hb2.cell (o := 0) rfl
      refine wpList_plain rfl (fun Ko hKo => ?_)
      go_simp
      refine hKo _ _ ?_
      clear hKo Ko
      clear cl0
      try simp only [Act.put, nm1, nm2, nm3, i64_w]
      refine wpList_plain rfl (fun Ko hKo => ?_)
      go_simp
      refine hKo _ _ ?_
      clear hKo Ko
      try simp only [Act.put, nm1, nm2, nm3, i64_w]
      refine wpList_plain rfl (fun Ko hKo => ?_)
      go_simp
      refine hKo _ _ ?_
      clear hKo Ko
      try simp only [Act.put, nm1, nm2, nm3, i64_w]
      refine step_call (wanted_none rfl) (by first | (go_simp; done) | (go_simp; rfl)) (spec_l01In.calls K a1_0 0 (wrap64 (a0 - 1)) true w3  A7.out) ?_
      rintro e w8 ⟨rfl, hu⟩
      have hu9 := Aside0.mk hu
      clear hu
      refine ⟨_, rfl, ?_⟩
      simp only [Act.put, nm1, nm2, nm3, i64_w]
      refine wpList_plain rfl (fun Ko hKo => ?_)
      go_simp
      refine hKo _ _ ?_
      clear hKo Ko
      try simp only [Act.put, nm1, nm2, nm3, i64_w]
      refine wpList_step (fun Ko hKo => ?_)
      go_simp
      refine hKo _ _ ?_
      clear hKo Ko
      try simp only [Act.put, nm1, nm2, nm3, i64_w]
      have cl0 := (hb2.up hu9.out).cell (o := 1) rfl
      refine wpList_step (fun Ko hKo => ?_)
      go_simp
      refine hKo _ _ ?_
      clear hKo Ko
      clear cl0
      try simp only [Act.put, nm1, nm2, nm3, i64_w]
      refine wpList_step (fun Ko hKo => ?_)
      go_simp
      refine hKo _ _ ?_
      clear hKo Ko
      try simp only [Act.put, nm1, nm2, nm3, i64_w]
      refine wpList_step (fun Ko hKo => ?_)
      go_simp
      refine hKo _ _ ?_
      clear hKo Ko
      try simp only [Act.put, nm1, nm2, nm3, i64_w]
      refine step_call rfl (by first | (go_simp; done) | (go_simp; rfl)) (spec_l01In.calls K a1_1 0 (wrap64 (a0 - 1)) true w8  A12.out) ?_
      rintro e w13 ⟨rfl, hu⟩
      have hu14 := Aside0.mk hu
      clear hu
      refine ⟨_, rfl, ?_⟩
      simp only [Act.put, nm1, nm2, nm3, i64_w]
      refine wpList_plain rfl (fun Ko hKo => ?_)
      go_simp
      refine hKo _ _ ?_
      clear hKo Ko
      try simp only [Act.put, nm1, nm2, nm3, i64_w]
      refine wpList_plain rfl (fun Ko hKo => ?_)
      go_simp
      refine hKo _ _ ?_
      clear hKo Ko
      try simp only [Act.put, nm1, nm2, nm3, i64_w]
      refine wpList_step (fun Ko hKo => ?_)
      go_simp
      refine hKo _ _ ?_
      clear hKo Ko
      try simp only [Act.put, nm1, nm2, nm3, i64_w]
      have cl0 := (hb2.up (hu9.out.trans hu14.out)).cell (o := 2) rfl
      refine wpList_step (fun Ko hKo => ?_)
      go_simp
      refine hKo _ _ ?_
      clear hKo Ko
      clear cl0
      try simp only [Act.put, nm1, nm2, nm3, i64_w]
      refine wpList_step (fun Ko hKo => ?_)
      go_simp
      refine hKo _ _ ?_
      clear hKo Ko
      try simp only [Act.put, nm1, nm2, nm3, i64_w]
      refine wpList_step (fun Ko hKo => ?_)
      go_simp
      refine hKo _ _ ?_
      clear hKo Ko
      try simp only [Act.put, nm1, nm2, nm3, i64_w]
      refine step_call rfl (by first | (go_simp; done) | (go_simp; rfl)) (spec_l01In.calls K a1_2 0 (wrap64 (a0 - 1)) true w13  A17.out) ?_
      rintro e w18 ⟨rfl, hu⟩
      have hu19 := Aside0.mk hu
      clear hu
      refine ⟨_, rfl, ?_⟩
      simp only [Act.put, nm1, nm2, nm3, i64_w]
      refine wpList_plain rfl (fun Ko hKo => ?_)
      go_simp
      refine hKo _ _ ?_
      clear hKo Ko
      try simp only [Act.put, nm1, nm2, nm3, i64_w]
      refine wpList_plain rfl (fun Ko hKo => ?_)
      go_simp
      refine hKo _ _ ?_
      clear hKo Ko
      try simp only [Act.put, nm1, nm2, nm3, i64_w]
      refine wpList_step (fun Ko hKo => ?_)
      go_simp
      refine hKo _ _ ?_
      clear hKo Ko
      try simp only [Act.put, nm1, nm2, nm3, i64_w]
      have cl0 := (hb2.up ((hu9.out.trans hu14.out).trans hu19.out)).cell (o := 0) rfl
      refine wpList_step (fun Ko hKo => ?_)
      go_simp
      refine hKo _ _ ?_
      clear hKo Ko
      clear cl0
      try simp only [Act.put, nm1, nm2, nm3, i64_w]
      refine wpList_step (fun Ko hKo => ?_)
      go_simp
      refine hKo _ _ ?_
      clear hKo Ko
      try simp only [Act.put, nm1, nm2, nm3, i64_w]
      refine wpList_step (fun Ko hKo => ?_)
      go_simp
      refine hKo _ _ ?_
      clear hKo Ko
      try simp only [Act.put, nm1, nm2, nm3, i64_w]
      refine wpList_step (fun Ko hKo => ?_)
      go_simp
      refine hKo _ _ ?_
      clear hKo Ko
      try simp only [Act.put, nm1, nm2, nm3, i64_w]
      have cl0 := (hb2.up ((hu9.out.trans hu14.out).trans hu19.out)).cell (o := 0) rfl
      refine wpList_step (fun Ko hKo => ?_)
      go_simp
      refine hKo _ _ ?_
      clear hKo Ko
      clear cl0
      try simp only [Act.put, nm1, nm2, nm3, i64_w]
      refine wpList_step (fun Ko hKo => ?_)
      go_simp
      refine hKo _ _ ?_
      clear hKo Ko
      try simp only [Act.put, nm1, nm2, nm3, i64_w]
      refine wpList_step (fun Ko hKo => ?_)
      go_simp
      refine hKo _ _ ?_
      clear hKo Ko
      try simp only [Act.put, nm1, nm2, nm3, i64_w]
      refine step_no rfl ?_
      simp only [Act.put, nm1, nm2, nm3, i64_w]
      refine step_no rfl ?_
      simp only [Act.put, nm1, nm2, nm3, i64_w]
      refine step_no rfl ?_
      simp only [Act.put, nm1, nm2, nm3, i64_w]
      refine wpList_step (fun Ko hKo => ?_)
      go_simp
      refine hKo _ _ ?_
      clear hKo Ko
      try simp only [Act.put, nm1, nm2, nm3, i64_w]
      refine wpList_step (fun Ko hKo => ?_)
      go_simp
      refine hKo _ _ ?_
      clear hKo Ko
      try simp only [Act.put, nm1, nm2, nm3, i64_w]
      refine wpList_plain rfl (fun Ko hKo => ?_)
      go_simp
      refine hKo _ _ ?_
      clear hKo Ko
      try simp only [Act.put, nm1, nm2, nm3, i64_w]
      refine wpList_plain rfl (fun Ko hKo => ?_)
      go_simp
      refine hKo _ _ ?_
      clear hKo Ko
      try simp only [Act.put, nm1, nm2, nm3, i64_w]
      refine wpList_nil ?_
      (try simp only [Exit.then, Exit.inBlock, ↓reduceIte, Nat.reduceEqDiff])
      refine hK5 _ _ ?_
      refine wp_ret ?_
      (try simp only [Exit.then, Exit.inBlock, ↓reduceIte, Nat.reduceEqDiff])
      refine hQf _ _ _ ?_
      exact bodyPost_ret (v := .bool false) (by first | rfl | (simp [results, Try.results88, go_sem]; done) | (simp [results, Try.results88, go_sem]; rfl)) rfl ⟨rfl, (((hu4.out.trans hu9.out).trans hu14.out).trans hu19.out)⟩
   ·
    rw [if_neg c20] at H
    replace c20 := Bool.eq_false_iff.mpr c20
    subst c20
    obtain rfl := Option.some.inj H
    go_enter Try.func88, Try.ntmps88
    refine wp_hide (fun Qf hQf => ?_)
    refine wp_seq_k (fun K1 hK1 => ?_)
    refine wp_region_lit ?_
    refine step_new (cs := [.int .i64 a1_0, .int .i64 a1_1, .int .i64 a1_2]) (T := 54) (f := fun b => .pointer (some ⟨b, 0, none⟩)) rfl (by first | (go_simp; done) | (go_simp; rfl)) ?_
    intro b2 w3 hu lb hb2
    simp only [Act.put, nm1, nm2, nm3, i64_w]
    have lbb2 := Aside0.mk lb
    have ltb2 := Aside0.mk hb2.lt
    clear lb
    have hu4 := Aside0.mk hu
    clear hu
    refine wpList_plain rfl (fun Ko hKo => ?_)
    go_simp
    refine hKo _ _ ?_
    clear hKo Ko
    try simp only [Act.put, nm1, nm2, nm3, i64_w]
    refine wpList_nil ?_
    (try simp only [Exit.then, Exit.inBlock, ↓reduceIte, Nat.reduceEqDiff])
    refine hK1 _ _ ?_
    refine wp_seq_k (fun K5 hK5 => ?_)
    refine wp_region_lit ?_
    refine wpList_plain rfl (fun Ko hKo => ?_)
    go_simp
    refine hKo _ _ ?_
    clear hKo Ko
    try simp only [Act.put, nm1, nm2, nm3, i64_w]
    have cl0 := hb2.cell (o := 0) rfl
    refine wpList_plain rfl (fun Ko hKo => ?_)
    go_simp
    refine hKo _ _ ?_
    clear hKo Ko
    clear cl0
    try simp only [Act.put, nm1, nm2, nm3, i64_w]
    refine wpList_plain rfl (fun Ko hKo => ?_)
    go_simp
    refine hKo _ _ ?_
    clear hKo Ko
    try simp only [Act.put, nm1, nm2, nm3, i64_w]
    refine wpList_plain rfl (fun Ko hKo => ?_)
    go_simp
    refine hKo _ _ ?_
    clear hKo Ko
    try simp only [Act.put, nm1, nm2, nm3, i64_w]
    refine step_call (wanted_none rfl) (by first | (go_simp; done) | (go_simp; rfl)) (spec_l01In.calls K a1_0 0 (wrap64 (a0 - 1)) true w3  A7.out) ?_
    rintro e w8 ⟨rfl, hu⟩
    have hu9 := Aside0.mk hu
    clear hu
    refine ⟨_, rfl, ?_⟩
    simp only [Act.put, nm1, nm2, nm3, i64_w]
    refine wpList_plain rfl (fun Ko hKo => ?_)
    go_simp
    refine hKo _ _ ?_
    clear hKo Ko
    try simp only [Act.put, nm1, nm2, nm3, i64_w]
    refine wpList_step (fun Ko hKo => ?_)
    go_simp
    refine hKo _ _ ?_
    clear hKo Ko
    try simp only [Act.put, nm1, nm2, nm3, i64_w]
    have cl0 := (hb2.up hu9.out).cell (o := 1) rfl
    refine wpList_step (fun Ko hKo => ?_)
    go_simp
    refine hKo _ _ ?_
    clear hKo Ko
    clear cl0
    try simp only [Act.put, nm1, nm2, nm3, i64_w]
    refine wpList_step (fun Ko hKo => ?_)
    go_simp
    refine hKo _ _ ?_
    clear hKo Ko
    try simp only [Act.put, nm1, nm2, nm3, i64_w]
    refine wpList_step (fun Ko hKo => ?_)
    go_simp
    refine hKo _ _ ?_
    clear hKo Ko
    try simp only [Act.put, nm1, nm2, nm3, i64_w]
    refine step_call rfl (by first | (go_simp; done) | (go_simp; rfl)) (spec_l01In.calls K a1_1 0 (wrap64 (a0 - 1)) true w8  A12.out) ?_
    rintro e w13 ⟨rfl, hu⟩
    have hu14 := Aside0.mk hu
    clear hu
    refine ⟨_, rfl, ?_⟩
    simp only [Act.put, nm1, nm2, nm3, i64_w]
    refine wpList_plain rfl (fun Ko hKo => ?_)
    go_simp
    refine hKo _ _ ?_
    clear hKo Ko
    try simp only [Act.put, nm1, nm2, nm3, i64_w]
    refine wpList_plain rfl (fun Ko hKo => ?_)
    go_simp
    refine hKo _ _ ?_
    clear hKo Ko
    try simp only [Act.put, nm1, nm2, nm3, i64_w]
    refine wpList_step (fun Ko hKo => ?_)
    go_simp
    refine hKo _ _ ?_
    clear hKo Ko
    try simp only [Act.put, nm1, nm2, nm3, i64_w]
    have cl0 := (hb2.up (hu9.out.trans hu14.out)).cell (o := 2) rfl
    refine wpList_step (fun Ko hKo => ?_)
    go_simp
    refine hKo _ _ ?_
    clear hKo Ko
    clear cl0
    try simp only [Act.put, nm1, nm2, nm3, i64_w]
    refine wpList_step (fun Ko hKo => ?_)
    go_simp
    refine hKo _ _ ?_
    clear hKo Ko
    try simp only [Act.put, nm1, nm2, nm3, i64_w]
    refine wpList_step (fun Ko hKo => ?_)
    go_simp
    refine hKo _ _ ?_
    clear hKo Ko
    try simp only [Act.put, nm1, nm2, nm3, i64_w]
    refine step_call rfl (by first | (go_simp; done) | (go_simp; rfl)) (spec_l01In.calls K a1_2 0 (wrap64 (a0 - 1)) false w13  A17.out) ?_
    rintro e w18 ⟨rfl, hu⟩
    have hu19 := Aside0.mk hu
    clear hu
    refine ⟨_, rfl, ?_⟩
    simp only [Act.put, nm1, nm2, nm3, i64_w]
    refine wpList_plain rfl (fun Ko hKo => ?_)
    go_simp
    refine hKo _ _ ?_
    clear hKo Ko
    try simp only [Act.put, nm1, nm2, nm3, i64_w]
    refine wpList_plain rfl (fun Ko hKo => ?_)
    go_simp
    refine hKo _ _ ?_
    clear hKo Ko
    try simp only [Act.put, nm1, nm2, nm3, i64_w]
    refine step_no rfl ?_
    simp only [Act.put, nm1, nm2, nm3, i64_w]
    refine step_no rfl ?_
    simp only [Act.put, nm1, nm2, nm3, i64_w]
    refine step_no rfl ?_
    simp only [Act.put, nm1, nm2, nm3, i64_w]
    refine step_no rfl ?_
    simp only [Act.put, nm1, nm2, nm3, i64_w]
    refine step_no rfl ?_
    simp only [Act.put, nm1, nm2, nm3, i64_w]
    refine step_no rfl ?_
    simp only [Act.put, nm1, nm2, nm3, i64_w]
    refine step_no rfl ?_
    simp only [Act.put, nm1, nm2, nm3, i64_w]
    refine step_no rfl ?_
    simp only [Act.put, nm1, nm2, nm3, i64_w]
    refine step_no rfl ?_
    simp only [Act.put, nm1, nm2, nm3, i64_w]
    refine step_no rfl ?_
    simp only [Act.put, nm1, nm2, nm3, i64_w]
    refine step_no rfl ?_
    simp only [Act.put, nm1, nm2, nm3, i64_w]
    refine step_no rfl ?_
    simp only [Act.put, nm1, nm2, nm3, i64_w]
    refine step_no rfl ?_
    simp only [Act.put, nm1, nm2, nm3, i64_w]
    refine wpList_plain rfl (fun Ko hKo => ?_)
    go_simp
    refine hKo _ _ ?_
    clear hKo Ko
    try simp only [Act.put, nm1, nm2, nm3, i64_w]
    refine wpList_plain rfl (fun Ko hKo => ?_)
    go_simp
    refine hKo _ _ ?_
    clear hKo Ko
    try simp only [Act.put, nm1, nm2, nm3, i64_w]
    refine wpList_nil ?_
    (try simp only [Exit.then, Exit.inBlock, ↓reduceIte, Nat.reduceEqDiff])
    refine hK5 _ _ ?_
    refine wp_ret ?_
    (try simp only [Exit.then, Exit.inBlock, ↓reduceIte, Nat.reduceEqDiff])
    refine hQf _ _ _ ?_
    exact bodyPost_ret (v := .bool false) (by first | rfl | (simp [results, Try.results88, go_sem]; done) | (simp [results, Try.results88, go_sem]; rfl)) rfl ⟨rfl, (((hu4.out.trans hu9.out).trans hu14.out).trans hu19.out)⟩
  ·
   rw [if_neg c15] at H
   replace c15 := Bool.eq_false_iff.mpr c15
   subst c15
   obtain rfl := Option.some.inj H
   go_enter Try.func88, Try.ntmps88
   refine wp_hide (fun Qf hQf => ?_)
   refine wp_seq_k (fun K1 hK1 => ?_)
   refine wp_region_lit ?_
   refine step_new (cs := [.int .i64 a1_0, .int .i64 a1_1, .int .i64 a1_2]) (T := 54) (f := fun b => .pointer (some ⟨b, 0, none⟩)) rfl (by first | (go_simp; done) | (go_simp; rfl)) ?_
   intro b2 w3 hu lb hb2
   simp only [Act.put, nm1, nm2, nm3, i64_w]
   have lbb2 := Aside0.mk lb
   have ltb2 := Aside0.mk hb2.lt
   clear lb
   have hu4 := Aside0.mk hu
   clear hu
   refine wpList_plain rfl (fun Ko hKo => ?_)
   go_simp
   refine hKo _ _ ?_
   clear hKo Ko
   try simp only [Act.put, nm1, nm2, nm3, i64_w]
   refine wpList_nil ?_
   (try simp only [Exit.then, Exit.inBlock, ↓reduceIte, Nat.reduceEqDiff])
   refine hK1 _ _ ?_
   refine wp_seq_k (fun K5 hK5 => ?_)
   refine wp_region_lit ?_
   refine wpList_plain rfl (fun Ko hKo => ?_)
   go_simp
   refine hKo _ _ ?_
   clear hKo Ko
   try simp only [Act.put, nm1, nm2, nm3, i64_w]
   have cl0 := hb2.cell (o := 0) rfl
   refine wpList_plain rfl (fun Ko hKo => ?_)
   go_simp
   refine hKo _ _ ?_
   clear hKo Ko
   clear cl0
   try simp only [Act.put, nm1, nm2, nm3, i64_w]
   refine wpList_plain rfl (fun Ko hKo => ?_)
   go_simp
   refine hKo _ _ ?_
   clear hKo Ko
   try simp only [Act.put, nm1, nm2, nm3, i64_w]
   refine wpList_plain rfl (fun Ko hKo => ?_)
   go_simp
   refine hKo _ _ ?_
   clear hKo Ko
   try simp only [Act.put, nm1, nm2, nm3, i64_w]
   refine step_call (wanted_none rfl) (by first | (go_simp; done) | (go_simp; rfl)) (spec_l01In.calls K a1_0 0 (wrap64 (a0 - 1)) true w3  A7.out) ?_
   rintro e w8 ⟨rfl, hu⟩
   have hu9 := Aside0.mk hu
   clear hu
   refine ⟨_, rfl, ?_⟩
   simp only [Act.put, nm1, nm2, nm3, i64_w]
   refine wpList_plain rfl (fun Ko hKo => ?_)
   go_simp
   refine hKo _ _ ?_
   clear hKo Ko
   try simp only [Act.put, nm1, nm2, nm3, i64_w]
   refine wpList_step (fun Ko hKo => ?_)
   go_simp
   refine hKo _ _ ?_
   clear hKo Ko
   try simp only [Act.put, nm1, nm2, nm3, i64_w]
   have cl0 := (hb2.up hu9.out).cell (o := 1) rfl
   refine wpList_step (fun Ko hKo => ?_)
   go_simp
   refine hKo _ _ ?_
   clear hKo Ko
   clear cl0
   try simp only [Act.put, nm1, nm2, nm3, i64_w]
   refine wpList_step (fun Ko hKo => ?_)
   go_simp
   refine hKo _ _ ?_
   clear hKo Ko
   try simp only [Act.put, nm1, nm2, nm3, i64_w]
   refine wpList_step (fun Ko hKo => ?_)
   go_simp
   refine hKo _ _ ?_
   clear hKo Ko
   try simp only [Act.put, nm1, nm2, nm3, i64_w]
   refine step_call rfl (by first | (go_simp; done) | (go_simp; rfl)) (spec_l01In.calls K a1_1 0 (wrap64 (a0 - 1)) false w8  A12.out) ?_
   rintro e w13 ⟨rfl, hu⟩
   have hu14 := Aside0.mk hu
   clear hu
   refine ⟨_, rfl, ?_⟩
   simp only [Act.put, nm1, nm2, nm3, i64_w]
   refine wpList_plain rfl (fun Ko hKo => ?_)
   go_simp
   refine hKo _ _ ?_
   clear hKo Ko
   try simp only [Act.put, nm1, nm2, nm3, i64_w]
   refine wpList_plain rfl (fun Ko hKo => ?_)
   go_simp
   refine hKo _ _ ?_
   clear hKo Ko
   try simp only [Act.put, nm1, nm2, nm3, i64_w]
   refine step_no rfl ?_
   simp only [Act.put, nm1, nm2, nm3, i64_w]
   refine step_no rfl ?_
   simp only [Act.put, nm1, nm2, nm3, i64_w]
   refine step_no rfl ?_
   simp only [Act.put, nm1, nm2, nm3, i64_w]
   refine step_no rfl ?_
   simp only [Act.put, nm1, nm2, nm3, i64_w]
   refine step_no rfl ?_
   simp only [Act.put, nm1, nm2, nm3, i64_w]
   refine wpList_plain rfl (fun Ko hKo => ?_)
   go_simp
   refine hKo _ _ ?_
   clear hKo Ko
   try simp only [Act.put, nm1, nm2, nm3, i64_w]
   refine wpList_plain rfl (fun Ko hKo => ?_)
   go_simp
   refine hKo _ _ ?_
   clear hKo Ko
   try simp only [Act.put, nm1, nm2, nm3, i64_w]
   refine step_no rfl ?_
   simp only [Act.put, nm1, nm2, nm3, i64_w]
   refine step_no rfl ?_
   simp only [Act.put, nm1, nm2, nm3, i64_w]
   refine step_no rfl ?_
   simp only [Act.put, nm1, nm2, nm3, i64_w]
   refine step_no rfl ?_
   simp only [Act.put, nm1, nm2, nm3, i64_w]
   refine step_no rfl ?_
   simp only [Act.put, nm1, nm2, nm3, i64_w]
   refine step_no rfl ?_
   simp only [Act.put, nm1, nm2, nm3, i64_w]
   refine step_no rfl ?_
   simp only [Act.put, nm1, nm2, nm3, i64_w]
   refine step_no rfl ?_
   simp only [Act.put, nm1, nm2, nm3, i64_w]
   refine step_no rfl ?_
   simp only [Act.put, nm1, nm2, nm3, i64_w]
   refine step_no rfl ?_
   simp only [Act.put, nm1, nm2, nm3, i64_w]
   refine step_no rfl ?_
   simp only [Act.put, nm1, nm2, nm3, i64_w]
   refine step_no rfl ?_
   simp only [Act.put, nm1, nm2, nm3, i64_w]
   refine step_no rfl ?_
   simp only [Act.put, nm1, nm2, nm3, i64_w]
   refine wpList_plain rfl (fun Ko hKo => ?_)
   go_simp
   refine hKo _ _ ?_
   clear hKo Ko
   try simp only [Act.put, nm1, nm2, nm3, i64_w]
   refine wpList_plain rfl (fun Ko hKo => ?_)
   go_simp
   refine hKo _ _ ?_
   clear hKo Ko
   try simp only [Act.put, nm1, nm2, nm3, i64_w]
   refine wpList_nil ?_
   (try simp only [Exit.then, Exit.inBlock, ↓reduceIte, Nat.reduceEqDiff])
   refine hK5 _ _ ?_
   refine wp_ret ?_
   (try simp only [Exit.then, Exit.inBlock, ↓reduceIte, Nat.reduceEqDiff])
   refine hQf _ _ _ ?_
   exact bodyPost_ret (v := .bool false) (by first | rfl | (simp [results, Try.results88, go_sem]; done) | (simp [results, Try.results88, go_sem]; rfl)) rfl ⟨rfl, ((hu4.out.trans hu9.out).trans hu14.out)⟩
 ·
  rw [if_neg c10] at H
  replace c10 := Bool.eq_false_iff.mpr c10
  subst c10
  obtain rfl := Option.some.inj H
  go_enter Try.func88, Try.ntmps88
  refine wp_hide (fun Qf hQf => ?_)
  refine wp_seq_k (fun K1 hK1 => ?_)
  refine wp_region_lit ?_
  refine step_new (cs := [.int .i64 a1_0, .int .i64 a1_1, .int .i64 a1_2]) (T := 54) (f := fun b => .pointer (some ⟨b, 0, none⟩)) rfl (by first | (go_simp; done) | (go_simp; rfl)) ?_
  intro b2 w3 hu lb hb2
  simp only [Act.put, nm1, nm2, nm3, i64_w]
  have lbb2 := Aside0.mk lb
  have ltb2 := Aside0.mk hb2.lt
  clear lb
  have hu4 := Aside0.mk hu
  clear hu
  refine wpList_plain rfl (fun Ko hKo => ?_)
  go_simp
  refine hKo _ _ ?_
  clear hKo Ko
  try simp only [Act.put, nm1, nm2, nm3, i64_w]
  refine wpList_nil ?_
  (try simp only [Exit.then, Exit.inBlock, ↓reduceIte, Nat.reduceEqDiff])
  refine hK1 _ _ ?_
  refine wp_seq_k (fun K5 hK5 => ?_)
  refine wp_region_lit ?_
  refine wpList_plain rfl (fun Ko hKo => ?_)
  go_simp
  refine hKo _ _ ?_
  clear hKo Ko
  try simp only [Act.put, nm1, nm2, nm3, i64_w]
  have cl0 := hb2.cell (o := 0) rfl
  refine wpList_plain rfl (fun Ko hKo => ?_)
  go_simp
  refine hKo _ _ ?_
  clear hKo Ko
  clear cl0
  try simp only [Act.put, nm1, nm2, nm3, i64_w]
  refine wpList_plain rfl (fun Ko hKo => ?_)
  go_simp
  refine hKo _ _ ?_
  clear hKo Ko
  try simp only [Act.put, nm1, nm2, nm3, i64_w]
  refine wpList_plain rfl (fun Ko hKo => ?_)
  go_simp
  refine hKo _ _ ?_
  clear hKo Ko
  try simp only [Act.put, nm1, nm2, nm3, i64_w]
  refine step_call (wanted_none rfl) (by first | (go_simp; done) | (go_simp; rfl)) (spec_l01In.calls K a1_0 0 (wrap64 (a0 - 1)) false w3  A7.out) ?_
  rintro e w8 ⟨rfl, hu⟩
  have hu9 := Aside0.mk hu
  clear hu
  refine ⟨_, rfl, ?_⟩
  simp only [Act.put, nm1, nm2, nm3, i64_w]
  refine wpList_plain rfl (fun Ko hKo => ?_)
  go_simp
  refine hKo _ _ ?_
  clear hKo Ko
  try simp only [Act.put, nm1, nm2, nm3, i64_w]
  refine step_no rfl ?_
  simp only [Act.put, nm1, nm2, nm3, i64_w]
  refine step_no rfl ?_
  simp only [Act.put, nm1, nm2, nm3, i64_w]
  refine step_no rfl ?_
  simp only [Act.put, nm1, nm2, nm3, i64_w]
  refine step_no rfl ?_
  simp only [Act.put, nm1, nm2, nm3, i64_w]
  refine step_no rfl ?_
  simp only [Act.put, nm1, nm2, nm3, i64_w]
  refine wpList_plain rfl (fun Ko hKo => ?_)
  go_simp
  refine hKo _ _ ?_
  clear hKo Ko
  try simp only [Act.put, nm1, nm2, nm3, i64_w]
  refine wpList_plain rfl (fun Ko hKo => ?_)
  go_simp
  refine hKo _ _ ?_
  clear hKo Ko
  try simp only [Act.put, nm1, nm2, nm3, i64_w]
  refine step_no rfl ?_
  simp only [Act.put, nm1, nm2, nm3, i64_w]
  refine step_no rfl ?_
  simp only [Act.put, nm1, nm2, nm3, i64_w]
  refine step_no rfl ?_
  simp only [Act.put, nm1, nm2, nm3, i64_w]
  refine step_no rfl ?_
  simp only [Act.put, nm1, nm2, nm3, i64_w]
  refine step_no rfl ?_
  simp only [Act.put, nm1, nm2, nm3, i64_w]
  refine wpList_plain rfl (fun Ko hKo => ?_)
  go_simp
  refine hKo _ _ ?_
  clear hKo Ko
  try simp only [Act.put, nm1, nm2, nm3, i64_w]
  refine wpList_plain rfl (fun Ko hKo => ?_)
  go_simp
  refine hKo _ _ ?_
  clear hKo Ko
  try simp only [Act.put, nm1, nm2, nm3, i64_w]
  refine step_no rfl ?_
  simp only [Act.put, nm1, nm2, nm3, i64_w]
  refine step_no rfl ?_
  simp only [Act.put, nm1, nm2, nm3, i64_w]
  refine step_no rfl ?_
  simp only [Act.put, nm1, nm2, nm3, i64_w]
  refine step_no rfl ?_
  simp only [Act.put, nm1, nm2, nm3, i64_w]
  refine step_no rfl ?_
  simp only [Act.put, nm1, nm2, nm3, i64_w]
  refine step_no rfl ?_
  simp only [Act.put, nm1, nm2, nm3, i64_w]
  refine step_no rfl ?_
  simp only [Act.put, nm1, nm2, nm3, i64_w]
  refine step_no rfl ?_
  simp only [Act.put, nm1, nm2, nm3, i64_w]
  refine step_no rfl ?_
  simp only [Act.put, nm1, nm2, nm3, i64_w]
  refine step_no rfl ?_
  simp only [Act.put, nm1, nm2, nm3, i64_w]
  refine step_no rfl ?_
  simp only [Act.put, nm1, nm2, nm3, i64_w]
  refine step_no rfl ?_
  simp only [Act.put, nm1, nm2, nm3, i64_w]
  refine step_no rfl ?_
  simp only [Act.put, nm1, nm2, nm3, i64_w]
  refine wpList_plain rfl (fun Ko hKo => ?_)
  go_simp
  refine hKo _ _ ?_
  clear hKo Ko
  try simp only [Act.put, nm1, nm2, nm3, i64_w]
  refine wpList_plain rfl (fun Ko hKo => ?_)
  go_simp
  refine hKo _ _ ?_
  clear hKo Ko
  try simp only [Act.put, nm1, nm2, nm3, i64_w]
  refine wpList_nil ?_
  (try simp only [Exit.then, Exit.inBlock, ↓reduceIte, Nat.reduceEqDiff])
  refine hK5 _ _ ?_
  refine wp_ret ?_
  (try simp only [Exit.then, Exit.inBlock, ↓reduceIte, Nat.reduceEqDiff])
  refine hQf _ _ _ ?_
  exact bodyPost_ret (v := .bool false) (by first | rfl | (simp [results, Try.results88, go_sem]; done) | (simp [results, Try.results88, go_sem]; rfl)) rfl ⟨rfl, (hu4.out.trans hu9.out)⟩

set_option maxHeartbeats 4000000 in
set_option maxRecDepth 100000 in
theorem spec_l01Lines.calls (K : Nat) (a0 : Int) (a1_A : Option Addr) (a1_c : Nat) (a1 : List (Int × Int × Int)) (r0 : Int) (w : World) (ha1 : Rd e3 w a1_A a1) (h : spec_l01Lines.f K a0 a1 = some (r0)) :
    Calls Try.prog 122 #[.int .i64 a0, .slice a1_A a1.length a1_c] w fun e w' => e = .returned (.int .i64 r0) ∧ Up w w' := by
 have H : (((spec_l01Field.f K a0).bind fun t4 => (if t4 = true then (spec_l01Lines.l0 K a0 a1 K 0) else some 1)) : Option (Int)) = some (r0) := h
 clear h
 replace H := Option.bind_eq_some_iff.mp H
 obtain ⟨t4, A5, H⟩ := H
 replace A5 := Aside0.mk A5
 try dsimp only at H
 by_cases c8 : (t4) = true
 ·
  rw [if_pos c8] at H
  subst c8
  go_enter Try.func122, Try.ntmps122
  refine wp_hide (fun Qf hQf => ?_)
  refine wp_seq_k (fun K1 hK1 => ?_)
  refine wp_region_lit ?_
  refine wpList_plain rfl (fun Ko hKo => ?_)
  go_simp
  refine hKo _ _ ?_
  clear hKo Ko
  try simp only [Act.put, nm1, nm2, nm3, i64_w]
  refine wpList_nil ?_
  (try simp only [Exit.then, Exit.inBlock, ↓reduceIte, Nat.reduceEqDiff])
  refine hK1 _ _ ?_
  refine wp_seq_k (fun K2 hK2 => ?_)
  refine wp_seq_k (fun K3 hK3 => ?_)
  refine wp_region_lit ?_
  refine wpList_plain rfl (fun Ko hKo => ?_)
  go_simp
  refine hKo _ _ ?_
  clear hKo Ko
  try simp only [Act.put, nm1, nm2, nm3, i64_w]
  refine step_call (wanted_none rfl) (by first | (go_simp; done) | (go_simp; rfl)) (spec_l01Field.calls K a0 true w  A5.out) ?_
  rintro e w6 ⟨rfl, hu⟩
  have hu7 := Aside0.mk hu
  clear hu
  refine ⟨_, rfl, ?_⟩
  simp only [Act.put, nm1, nm2, nm3, i64_w]
  refine wpList_plain rfl (fun Ko hKo => ?_)
  go_simp
  refine hKo _ _ ?_
  clear hKo Ko
  try simp only [Act.put, nm1, nm2, nm3, i64_w]
  refine wpList_nil ?_
  (try simp only [Exit.then, Exit.inBlock, ↓reduceIte, Nat.reduceEqDiff])
  refine hK3 _ _ ?_
  refine wp_cond_false rfl ?_
  refine wp_skip ?_
  (try simp only [Exit.then, Exit.inBlock, ↓reduceIte, Nat.reduceEqDiff])
  refine hK2 _ _ ?_
  refine wp_seq_k (fun K9 hK9 => ?_)
  refine wp_seq_k (fun K10 hK10 => ?_)
  refine wp_region_lit ?_
  refine wpList_plain rfl (fun Ko hKo => ?_)
  go_simp
  refine hKo _ _ ?_
  clear hKo Ko
  try simp only [Act.put, nm1, nm2, nm3, i64_w]
  refine wpList_nil ?_
  (try simp only [Exit.then, Exit.inBlock, ↓reduceIte, Nat.reduceEqDiff])
  refine hK10 _ _ ?_
  refine wp_block ?_
  have HL15 := Aside0.mk H
  clear H
  go_loopg [5] K (fun kq v5 w' => ∃ (x11 : Int), v5 = .int .i64 x11 ∧ Aside0 (spec_l01Lines.l0 K a0 a1 kq x11 = some (r0)) ∧ Aside0 (kq ≤ K) ∧ Aside0 (Up w6 w') ∧ Aside0 (w6.heap.size ≤ w'.heap.size))
  case atStart => exact ⟨0, (by first | rfl | simp), HL15, ⟨Nat.le_refl _⟩, ⟨(Up.refl _)⟩, ⟨Nat.le_refl _⟩⟩
  case round =>
   rename_i J19 K20 hJ19 hK20
   obtain ⟨x11, rfl, HL18, hk17, hu13, hz14⟩ := hrel
   obtain ⟨w12, rfl⟩ : ∃ wo : World, wo = wr := ⟨_, rfl⟩
   obtain ⟨k16, rfl⟩ | rfl : (∃ k, gk = k + 1) ∨ gk = 0 := by rcases gk with _ | k; exact .inr rfl; exact .inl ⟨k, rfl⟩
   case inr => exact absurd HL18.out (by simp [spec_l01Lines.l0])
   have H := HL18.out
   clear HL18
   rw [spec_l01Lines.l0] at H
   by_cases c23 : (decide (x11 < (a1.length : Int))) = true
   ·
    rw [if_pos c23] at H
    replace H := Option.bind_eq_some_iff.mp H
    obtain ⟨⟨t26, t27, t28⟩, A29, H⟩ := H
    replace A29 := Aside0.mk A29
    try dsimp only at H
    replace H := Option.bind_eq_some_iff.mp H
    obtain ⟨t33, A34, H⟩ := H
    replace A34 := Aside0.mk A34
    try dsimp only at H
    by_cases c37 : (t33) = true
    ·
     rw [if_pos c37] at H
     subst c37
     have HL38 := Aside0.mk H
     clear H
     refine wp_seq_k (fun K21 hK21 => ?_)
     refine wp_seq_k (fun K22 hK22 => ?_)
     refine wp_region_lit ?_
     refine wpList_plain rfl (fun Ko hKo => ?_)
     go_simp
     refine hKo _ _ ?_
     clear hKo Ko
     try simp only [Act.put, nm1, nm2, nm3, i64_w]
     refine wpList_plain rfl (fun Ko hKo => ?_)
     go_simp
     refine hKo _ _ ?_
     clear hKo Ko
     try simp only [Act.put, nm1, nm2, nm3, i64_w]
     refine wpList_plain rfl (fun Ko hKo => ?_)
     go_simp
     refine hKo _ _ ?_
     clear hKo Ko
     try simp only [Act.put, nm1, nm2, nm3, i64_w]
     refine wpList_plain rfl (fun Ko hKo => ?_)
     go_simp
     refine hKo _ _ ?_
     clear hKo Ko
     try simp only [Act.put, nm1, nm2, nm3, i64_w]
     refine wpList_nil ?_
     (try simp only [Exit.then, Exit.inBlock, ↓reduceIte, Nat.reduceEqDiff])
     refine hK22 _ _ ?_
     refine wp_cond_true rfl ?_
     refine wp_skip ?_
     (try simp only [Exit.then, Exit.inBlock, ↓reduceIte, Nat.reduceEqDiff])
     refine hK21 _ _ ?_
     refine wp_seq_k (fun K24 hK24 => ?_)
     refine wp_block ?_
     refine wp_seq_k (fun K25 hK25 => ?_)
     refine wp_region_lit ?_
     refine wpList_plain rfl (fun Ko hKo => ?_)
     go_simp
     refine hKo _ _ ?_
     clear hKo Ko
     try simp only [Act.put, nm1, nm2, nm3, i64_w]
     refine wpList_plain rfl (fun Ko hKo => ?_)
     go_simp
     refine hKo _ _ ?_
     clear hKo Ko
     try simp only [Act.put, nm1, nm2, nm3, i64_w]
     refine wpList_plain rfl (fun Ko hKo => ?_)
     go_simp
     refine hKo _ _ ?_
     clear hKo Ko
     try simp only [Act.put, nm1, nm2, nm3, i64_w]
     refine step_index e3 (T := 54) (wanted_none rfl) rfl (by kernel_rfl) (by kernel_rfl) rfl rfl rfl (ha1.up (hu7.out.trans hu13.out)) A29.out ?_
     intro ad30 hat he
     have he31 := Aside0.mk he
     have hat32 := Aside0.mk hat
     clear he hat
     simp only [Act.put, nm1, nm2, nm3, i64_w]
     have cl0 := he31.out 0 _ rfl
     rw [addr_add0] at cl0
     have cl1 : World.cell? _ ⟨ad30.block, ad30.off + 1, none⟩ = some _ := he31.out 1 _ rfl
     have cl2 : World.cell? _ ⟨ad30.block, ad30.off + 2, none⟩ = some _ := he31.out 2 _ rfl
     refine wpList_plain rfl (fun Ko hKo => ?_)
     go_simp
     refine hKo _ _ ?_
     clear hKo Ko
     clear cl0 cl1 cl2
     try simp only [Act.put, nm1, nm2, nm3, i64_w]
     refine step_call (wanted_none rfl) (by first | (go_simp; done) | (go_simp; rfl)) (spec_l01Line.calls K a0 t26 t27 t28 true w12  A34.out) ?_
     rintro e w35 ⟨rfl, hu⟩
     have hu36 := Aside0.mk hu
     clear hu
     refine ⟨_, rfl, ?_⟩
     simp only [Act.put, nm1, nm2, nm3, i64_w]
     refine wpList_plain rfl (fun Ko hKo => ?_)
     go_simp
     refine hKo _ _ ?_
     clear hKo Ko
     try simp only [Act.put, nm1, nm2, nm3, i64_w]
     refine wpList_nil ?_
     (try simp only [Exit.then, Exit.inBlock, ↓reduceIte, Nat.reduceEqDiff])
     refine hK25 _ _ ?_
     refine wp_cond_false rfl ?_
     refine wp_skip ?_
     (try simp only [Exit.then, Exit.inBlock, ↓reduceIte, Nat.reduceEqDiff])
     refine hK24 _ _ ?_
     refine wp_region_lit ?_
     refine wpList_plain rfl (fun Ko hKo => ?_)
     go_simp
     refine hKo _ _ ?_
     clear hKo Ko
     try simp only [Act.put, nm1, nm2, nm3, i64_w]
     refine wpList_plain rfl (fun Ko hKo => ?_)
     go_simp
     refine hKo _ _ ?_
     clear hKo Ko
     try simp only [Act.put, nm1, nm2, nm3, i64_w]
     refine wpList_plain rfl (fun Ko hKo => ?_)
     go_simp
     refine hKo _ _ ?_
     clear hKo Ko
     try simp only [Act.put, nm1, nm2, nm3, i64_w]
     refine wpList_nil ?_
     (try simp only [Exit.then, Exit.inBlock, ↓reduceIte, Nat.reduceEqDiff])
     refine hK20 _ _ ?_
     go_roundg k16
     case measure => exact Nat.lt_succ_self _
     case rel => exact ⟨wrap64 (x11 + 1), (by first | rfl | simp), HL38, ⟨by have := hk17.out; omega⟩, ⟨(hu13.out.trans hu36.out)⟩, ⟨(Nat.le_trans ((Nat.le_trans (Nat.le_refl _) hz14.out)) hu36.out.size)⟩⟩
    ·
     rw [if_neg c37] at H
     replace c37 := Bool.eq_false_iff.mpr c37
     subst c37
     obtain rfl := Option.some.inj H
     refine wp_seq_k (fun K21 hK21 => ?_)
     refine wp_seq_k (fun K22 hK22 => ?_)
     refine wp_region_lit ?_
     refine wpList_plain rfl (fun Ko hKo => ?_)
     go_simp
     refine hKo _ _ ?_
     clear hKo Ko
     try simp only [Act.put, nm1, nm2, nm3, i64_w]
     refine wpList_plain rfl (fun Ko hKo => ?_)
     go_simp
     refine hKo _ _ ?_
     clear hKo Ko
     try simp only [Act.put, nm1, nm2, nm3, i64_w]
     refine wpList_plain rfl (fun Ko hKo => ?_)
     go_simp
     refine hKo _ _ ?_
     clear hKo Ko
     try simp only [Act.put, nm1, nm2, nm3, i64_w]
     refine wpList_plain rfl (fun Ko hKo => ?_)
     go_simp
     refine hKo _ _ ?_
     clear hKo Ko
     try simp only [Act.put, nm1, nm2, nm3, i64_w]
     refine wpList_nil ?_
     (try simp only [Exit.then, Exit.inBlock, ↓reduceIte, Nat.reduceEqDiff])
     refine hK22 _ _ ?_
     refine wp_cond_true rfl ?_
     refine wp_skip ?_
     (try simp only [Exit.then, Exit.inBlock, ↓reduceIte, Nat.reduceEqDiff])
     refine hK21 _ _ ?_
     refine wp_seq_k (fun K24 hK24 => ?_)
     refine wp_block ?_
     refine wp_seq_k (fun K25 hK25 => ?_)
     refine wp_region_lit ?_
     refine wpList_plain rfl (fun Ko hKo => ?_)
     go_simp
     refine hKo _ _ ?_
     clear hKo Ko
     try simp only [Act.put, nm1, nm2, nm3, i64_w]
     refine wpList_plain rfl (fun Ko hKo => ?_)
     go_simp
     refine hKo _ _ ?_
     clear hKo Ko
     try simp only [Act.put, nm1, nm2, nm3, i64_w]
     refine wpList_plain rfl (fun Ko hKo => ?_)
     go_simp
     refine hKo _ _ ?_
     clear hKo Ko
     try simp only [Act.put, nm1, nm2, nm3, i64_w]
     refine step_index e3 (T := 54) (wanted_none rfl) rfl (by kernel_rfl) (by kernel_rfl) rfl rfl rfl (ha1.up (hu7.out.trans hu13.out)) A29.out ?_
     intro ad30 hat he
     have he31 := Aside0.mk he
     have hat32 := Aside0.mk hat
     clear he hat
     simp only [Act.put, nm1, nm2, nm3, i64_w]
     have cl0 := he31.out 0 _ rfl
     rw [addr_add0] at cl0
     have cl1 : World.cell? _ ⟨ad30.block, ad30.off + 1, none⟩ = some _ := he31.out 1 _ rfl
     have cl2 : World.cell? _ ⟨ad30.block, ad30.off + 2, none⟩ = some _ := he31.out 2 _ rfl
     refine wpList_plain rfl (fun Ko hKo => ?_)
     go_simp
     refine hKo _ _ ?_
     clear hKo Ko
     clear cl0 cl1 cl2
     try simp only [Act.put, nm1, nm2, nm3, i64_w]
     refine step_call (wanted_none rfl) (by first | (go_simp; done) | (go_simp; rfl)) (spec_l01Line.calls K a0 t26 t27 t28 false w12  A34.out) ?_
     rintro e w35 ⟨rfl, hu⟩
     have hu36 := Aside0.mk hu
     clear hu
     refine ⟨_, rfl, ?_⟩
     simp only [Act.put, nm1, nm2, nm3, i64_w]
     refine wpList_plain rfl (fun Ko hKo => ?_)
     go_simp
     refine hKo _ _ ?_
     clear hKo Ko
     try simp only [Act.put, nm1, nm2, nm3, i64_w]
     refine wpList_nil ?_
     (try simp only [Exit.then, Exit.inBlock, ↓reduceIte, Nat.reduceEqDiff])
     refine hK25 _ _ ?_
     refine wp_cond_true rfl ?_
     refine wp_seq_k (fun K39 hK39 => ?_)
     refine wp_region_lit ?_
     refine wpList_plain rfl (fun Ko hKo => ?_)
     go_simp
     refine hKo _ _ ?_
     clear hKo Ko
     try simp only [Act.put, nm1, nm2, nm3, i64_w]
     refine wpList_nil ?_
     (try simp only [Exit.then, Exit.inBlock, ↓reduceIte, Nat.reduceEqDiff])
     refine hK39 _ _ ?_
     refine wp_ret ?_
     (try simp only [Exit.then, Exit.inBlock, ↓reduceIte, Nat.reduceEqDiff])
     refine hQf _ _ _ ?_
     exact bodyPost_ret (v := .int .i64 2) (by first | rfl | (simp [results, Try.results122, go_sem]; done) | (simp [results, Try.results122, go_sem]; rfl)) rfl ⟨rfl, ((hu7.out.trans hu13.out).trans hu36.out)⟩
   ·
    rw [if_neg c23] at H
    replace c23 := Bool.eq_false_iff.mpr c23
    obtain rfl := Option.some.inj H
    refine wp_seq_k (fun K21 hK21 => ?_)
    refine wp_seq_k (fun K22 hK22 => ?_)
    refine wp_region_lit ?_
    refine wpList_plain rfl (fun Ko hKo => ?_)
    go_simp
    refine hKo _ _ ?_
    clear hKo Ko
    try simp only [Act.put, nm1, nm2, nm3, i64_w]
    refine wpList_plain rfl (fun Ko hKo => ?_)
    go_simp
    refine hKo _ _ ?_
    clear hKo Ko
    try simp only [Act.put, nm1, nm2, nm3, i64_w]
    refine wpList_plain rfl (fun Ko hKo => ?_)
    go_simp
    refine hKo _ _ ?_
    clear hKo Ko
    try simp only [Act.put, nm1, nm2, nm3, i64_w]
    refine wpList_plain rfl (fun Ko hKo => ?_)
    go_simp
    refine hKo _ _ ?_
    clear hKo Ko
    try simp only [Act.put, nm1, nm2, nm3, i64_w]
    refine wpList_nil ?_
    (try simp only [Exit.then, Exit.inBlock, ↓reduceIte, Nat.reduceEqDiff])
    refine hK22 _ _ ?_
    refine wp_cond_false rfl ?_
    refine wp_exit ?_
    (try simp only [Exit.then, Exit.inBlock, ↓reduceIte, Nat.reduceEqDiff])
    refine hK9 _ _ ?_
    refine wp_seq_k (fun K40 hK40 => ?_)
    refine wp_region_lit ?_
    refine wpList_plain rfl (fun Ko hKo => ?_)
    go_simp
    refine hKo _ _ ?_
    clear hKo Ko
    try simp only [Act.put, nm1, nm2, nm3, i64_w]
    refine wpList_nil ?_
    (try simp only [Exit.then, Exit.inBlock, ↓reduceIte, Nat.reduceEqDiff])
    refine hK40 _ _ ?_
    refine wp_ret ?_
    (try simp only [Exit.then, Exit.inBlock, ↓reduceIte, Nat.reduceEqDiff])
    refine hQf _ _ _ ?_
    exact bodyPost_ret (v := .int .i64 0) (by first | rfl | (simp [results, Try.results122, go_sem]; done) | (simp [results, Try.results122, go_sem]; rfl)) rfl ⟨rfl, (hu7.out.trans hu13.out)⟩
 ·
  rw [if_neg c8] at H
  replace c8 := Bool.eq_false_iff.mpr c8
  subst c8
  obtain rfl := Option.some.inj H
  go_enter Try.func122, Try.ntmps122
  refine wp_hide (fun Qf hQf => ?_)
  refine wp_seq_k (fun K1 hK1 => ?_)
  refine wp_region_lit ?_
  refine wpList_plain rfl (fun Ko hKo => ?_)
  go_simp
  refine hKo _ _ ?_
  clear hKo Ko
  try simp only [Act.put, nm1, nm2, nm3, i64_w]
  refine wpList_nil ?_
  (try simp only [Exit.then, Exit.inBlock, ↓reduceIte, Nat.reduceEqDiff])
  refine hK1 _ _ ?_
  refine wp_seq_k (fun K2 hK2 => ?_)
  refine wp_seq_k (fun K3 hK3 => ?_)
  refine wp_region_lit ?_
  refine wpList_plain rfl (fun Ko hKo => ?_)
  go_simp
  refine hKo _ _ ?_
  clear hKo Ko
  try simp only [Act.put, nm1, nm2, nm3, i64_w]
  refine step_call (wanted_none rfl) (by first | (go_simp; done) | (go_simp; rfl)) (spec_l01Field.calls K a0 false w  A5.out) ?_
  rintro e w6 ⟨rfl, hu⟩
  have hu7 := Aside0.mk hu
  clear hu
  refine ⟨_, rfl, ?_⟩
  simp only [Act.put, nm1, nm2, nm3, i64_w]
  refine wpList_plain rfl (fun Ko hKo => ?_)
  go_simp
  refine hKo _ _ ?_
  clear hKo Ko
  try simp only [Act.put, nm1, nm2, nm3, i64_w]
  refine wpList_nil ?_
  (try simp only [Exit.then, Exit.inBlock, ↓reduceIte, Nat.reduceEqDiff])
  refine hK3 _ _ ?_
  refine wp_cond_true rfl ?_
  refine wp_seq_k (fun K41 hK41 => ?_)
  refine wp_region_lit ?_
  refine wpList_plain rfl (fun Ko hKo => ?_)
  go_simp
  refine hKo _ _ ?_
  clear hKo Ko
  try simp only [Act.put, nm1, nm2, nm3, i64_w]
  refine wpList_nil ?_
  (try simp only [Exit.then, Exit.inBlock, ↓reduceIte, Nat.reduceEqDiff])
  refine hK41 _ _ ?_
  refine wp_ret ?_
  (try simp only [Exit.then, Exit.inBlock, ↓reduceIte, Nat.reduceEqDiff])
  refine hQf _ _ _ ?_
  exact bodyPost_ret (v := .int .i64 1) (by first | rfl | (simp [results, Try.results122, go_sem]; done) | (simp [results, Try.results122, go_sem]; rfl)) rfl ⟨rfl, hu7.out⟩

set_option maxHeartbeats 4000000 in
set_option maxRecDepth 100000 in
theorem spec_l03Colour.calls (K : Nat) (a0 : Int) (a1 : Int) (a2_A : Option Addr) (a2_c : Nat) (a2 : List (Int × Int × Int)) (r0 : Int) (w : World) (ha2 : Rd e3 w a2_A a2) (h : spec_l03Colour.f K a0 a1 a2 = some (r0)) :
    Calls Try.prog 77 #[.int .i64 a0, .int .i64 a1, .slice a2_A a2.length a2_c] w fun e w' => e = .returned (.int .i64 r0) ∧ Up w w' := by
 have H : (((spec_l01Lines.f K a0 a2).bind fun t3 => (if (t3 == 0) = true then ((spec_l01In.f K a1 0 2).bind fun t10 => (if t10 = true then some t3 else some 2)) else some t3)) : Option (Int)) = some (r0) := h
 clear h
 replace H := Option.bind_eq_some_iff.mp H
 obtain ⟨t3, A4, H⟩ := H
 replace A4 := Aside0.mk A4
 try dsimp only at H
 by_cases c9 : (t3 == 0) = true
 ·
  rw [if_pos c9] at H
  have c9n : (t3 != 0) = false := by rw [bne, c9]; rfl
  replace H := Option.bind_eq_some_iff.mp H
  obtain ⟨t10, A11, H⟩ := H
  replace A11 := Aside0.mk A11
  try dsimp only at H
  by_cases c14 : (t10) = true
  ·
   rw [if_pos c14] at H
   subst c14
   obtain rfl := Option.some.inj H
   go_enter Try.func77, Try.ntmps77
   refine wp_hide (fun Qf hQf => ?_)
   refine wp_seq_k (fun K1 hK1 => ?_)
   refine wp_region_lit ?_
   refine wpList_plain rfl (fun Ko hKo => ?_)
   go_simp
   refine hKo _ _ ?_
   clear hKo Ko
   try simp only [Act.put, nm1, nm2, nm3, i64_w]
   refine wpList_nil ?_
   (try simp only [Exit.then, Exit.inBlock, ↓reduceIte, Nat.reduceEqDiff])
   refine hK1 _ _ ?_
   refine wp_seq_k (fun K2 hK2 => ?_)
   refine wp_region_lit ?_
   refine wpList_plain rfl (fun Ko hKo => ?_)
   go_simp
   refine hKo _ _ ?_
   clear hKo Ko
   try simp only [Act.put, nm1, nm2, nm3, i64_w]
   refine wpList_plain rfl (fun Ko hKo => ?_)
   go_simp
   refine hKo _ _ ?_
   clear hKo Ko
   try simp only [Act.put, nm1, nm2, nm3, i64_w]
   refine step_call (wanted_none rfl) (by first | (go_simp; done) | (go_simp; rfl)) (spec_l01Lines.calls K a0 a2_A a2_c a2 t3 w ha2 A4.out) ?_
   rintro e w5 ⟨rfl, hu⟩
   have hu6 := Aside0.mk hu
   clear hu
   refine ⟨_, rfl, ?_⟩
   simp only [Act.put, nm1, nm2, nm3, i64_w]
   refine wpList_plain rfl (fun Ko hKo => ?_)
   go_simp
   refine hKo _ _ ?_
   clear hKo Ko
   try simp only [Act.put, nm1, nm2, nm3, i64_w]
   refine wpList_nil ?_
   (try simp only [Exit.then, Exit.inBlock, ↓reduceIte, Nat.reduceEqDiff])
   refine hK2 _ _ ?_
   refine wp_seq_k (fun K7 hK7 => ?_)
   refine wp_seq_k (fun K8 hK8 => ?_)
   refine wp_region_lit ?_
   refine wpList_plain rfl (fun Ko hKo => ?_)
   go_simp
   refine hKo _ _ ?_
   clear hKo Ko
   try simp only [Act.put, nm1, nm2, nm3, i64_w]
   refine wpList_plain rfl (fun Ko hKo => ?_)
   go_simp
   refine hKo _ _ ?_
   clear hKo Ko
   try simp only [Act.put, nm1, nm2, nm3, i64_w]
   refine wpList_plain rfl (fun Ko hKo => ?_)
   go_simp
   refine hKo _ _ ?_
   clear hKo Ko
   try simp only [Act.put, nm1, nm2, nm3, i64_w]
   refine wpList_step (fun Ko hKo => ?_)
   go_simp
   refine hKo _ _ ?_
   clear hKo Ko
   try simp only [Act.put, nm1, nm2, nm3, i64_w]
   refine step_call rfl (by first | (go_simp; done) | (go_simp; rfl)) (spec_l01In.calls K a1 0 2 true w5  A11.out) ?_
   rintro e w12 ⟨rfl, hu⟩
   have hu13 := Aside0.mk hu
   clear hu
   refine ⟨_, rfl, ?_⟩
   simp only [Act.put, nm1, nm2, nm3, i64_w]
   refine wpList_step (fun Ko hKo => ?_)
   go_simp
   refine hKo _ _ ?_
   clear hKo Ko
   try simp only [Act.put, nm1, nm2, nm3, i64_w]
   refine wpList_plain rfl (fun Ko hKo => ?_)
   go_simp
   refine hKo _ _ ?_
   clear hKo Ko
   try simp only [Act.put, nm1, nm2, nm3, i64_w]
   refine wpList_nil ?_
   (try simp only [Exit.then, Exit.inBlock, ↓reduceIte, Nat.reduceEqDiff])
   refine hK8 _ _ ?_
   refine wp_cond_false rfl ?_
   refine wp_skip ?_
   (try simp only [Exit.then, Exit.inBlock, ↓reduceIte, Nat.reduceEqDiff])
   refine hK7 _ _ ?_
   refine wp_seq_k (fun K15 hK15 => ?_)
   refine wp_region_lit ?_
   refine wpList_plain rfl (fun Ko hKo => ?_)
   go_simp
   refine hKo _ _ ?_
   clear hKo Ko
   try simp only [Act.put, nm1, nm2, nm3, i64_w]
   refine wpList_plain rfl (fun Ko hKo => ?_)
   go_simp
   refine hKo _ _ ?_
   clear hKo Ko
   try simp only [Act.put, nm1, nm2, nm3, i64_w]
   refine wpList_nil ?_
   (try simp only [Exit.then, Exit.inBlock, ↓reduceIte, Nat.reduceEqDiff])
   refine hK15 _ _ ?_
   refine wp_ret ?_
   (try simp only [Exit.then, Exit.inBlock, ↓reduceIte, Nat.reduceEqDiff])
   refine hQf _ _ _ ?_
   exact bodyPost_ret (v := .int .i64 t3) (by first | rfl | (simp [results, Try.results77, go_sem]; done) | (simp [results, Try.results77, go_sem]; rfl)) rfl ⟨rfl, (hu6.out.trans hu13.out)⟩
  ·
   rw [if_neg c14] at H
   replace c14 := Bool.eq_false_iff.mpr c14
   subst c14
   obtain rfl := Option.some.inj H
   go_enter Try.func77, Try.ntmps77
   refine wp_hide (fun Qf hQf => ?_)
   refine wp_seq_k (fun K1 hK1 => ?_)
   refine wp_region_lit ?_
   refine wpList_plain rfl (fun Ko hKo => ?_)
   go_simp
   refine hKo _ _ ?_
   clear hKo Ko
   try simp only [Act.put, nm1, nm2, nm3, i64_w]
   refine wpList_nil ?_
   (try simp only [Exit.then, Exit.inBlock, ↓reduceIte, Nat.reduceEqDiff])
   refine hK1 _ _ ?_
   refine wp_seq_k (fun K2 hK2 => ?_)
   refine wp_region_lit ?_
   refine wpList_plain rfl (fun Ko hKo => ?_)
   go_simp
   refine hKo _ _ ?_
   clear hKo Ko
   try simp only [Act.put, nm1, nm2, nm3, i64_w]
   refine wpList_plain rfl (fun Ko hKo => ?_)
   go_simp
   refine hKo _ _ ?_
   clear hKo Ko
   try simp only [Act.put, nm1, nm2, nm3, i64_w]
   refine step_call (wanted_none rfl) (by first | (go_simp; done) | (go_simp; rfl)) (spec_l01Lines.calls K a0 a2_A a2_c a2 t3 w ha2 A4.out) ?_
   rintro e w5 ⟨rfl, hu⟩
   have hu6 := Aside0.mk hu
   clear hu
   refine ⟨_, rfl, ?_⟩
   simp only [Act.put, nm1, nm2, nm3, i64_w]
   refine wpList_plain rfl (fun Ko hKo => ?_)
   go_simp
   refine hKo _ _ ?_
   clear hKo Ko
   try simp only [Act.put, nm1, nm2, nm3, i64_w]
   refine wpList_nil ?_
   (try simp only [Exit.then, Exit.inBlock, ↓reduceIte, Nat.reduceEqDiff])
   refine hK2 _ _ ?_
   refine wp_seq_k (fun K7 hK7 => ?_)
   refine wp_seq_k (fun K8 hK8 => ?_)
   refine wp_region_lit ?_
   refine wpList_plain rfl (fun Ko hKo => ?_)
   go_simp
   refine hKo _ _ ?_
   clear hKo Ko
   try simp only [Act.put, nm1, nm2, nm3, i64_w]
   refine wpList_plain rfl (fun Ko hKo => ?_)
   go_simp
   refine hKo _ _ ?_
   clear hKo Ko
   try simp only [Act.put, nm1, nm2, nm3, i64_w]
   refine wpList_plain rfl (fun Ko hKo => ?_)
   go_simp
   refine hKo _ _ ?_
   clear hKo Ko
   try simp only [Act.put, nm1, nm2, nm3, i64_w]
   refine wpList_step (fun Ko hKo => ?_)
   go_simp
   refine hKo _ _ ?_
   clear hKo Ko
   try simp only [Act.put, nm1, nm2, nm3, i64_w]
   refine step_call rfl (by first | (go_simp; done) | (go_simp; rfl)) (spec_l01In.calls K a1 0 2 false w5  A11.out) ?_
   rintro e w12 ⟨rfl, hu⟩
   have hu13 := Aside0.mk hu
   clear hu
   refine ⟨_, rfl, ?_⟩
   simp only [Act.put, nm1, nm2, nm3, i64_w]
   refine wpList_step (fun Ko hKo => ?_)
   go_simp
   refine hKo _ _ ?_
   clear hKo Ko
   try simp only [Act.put, nm1, nm2, nm3, i64_w]
   refine wpList_plain rfl (fun Ko hKo => ?_)
   go_simp
   refine hKo _ _ ?_
   clear hKo Ko
   try simp only [Act.put, nm1, nm2, nm3, i64_w]
   refine wpList_nil ?_
   (try simp only [Exit.then, Exit.inBlock, ↓reduceIte, Nat.reduceEqDiff])
   refine hK8 _ _ ?_
   refine wp_cond_true rfl ?_
   refine wp_region_lit ?_
   refine wpList_plain rfl (fun Ko hKo => ?_)
   go_simp
   refine hKo _ _ ?_
   clear hKo Ko
   try simp only [Act.put, nm1, nm2, nm3, i64_w]
   refine wpList_nil ?_
   (try simp only [Exit.then, Exit.inBlock, ↓reduceIte, Nat.reduceEqDiff])
   refine hK7 _ _ ?_
   refine wp_seq_k (fun K16 hK16 => ?_)
   refine wp_region_lit ?_
   refine wpList_plain rfl (fun Ko hKo => ?_)
   go_simp
   refine hKo _ _ ?_
   clear hKo Ko
   try simp only [Act.put, nm1, nm2, nm3, i64_w]
   refine wpList_plain rfl (fun Ko hKo => ?_)
   go_simp
   refine hKo _ _ ?_
   clear hKo Ko
   try simp only [Act.put, nm1, nm2, nm3, i64_w]
   refine wpList_nil ?_
   (try simp only [Exit.then, Exit.inBlock, ↓reduceIte, Nat.reduceEqDiff])
   refine hK16 _ _ ?_
   refine wp_ret ?_
   (try simp only [Exit.then, Exit.inBlock, ↓reduceIte, Nat.reduceEqDiff])
   refine hQf _ _ _ ?_
   exact bodyPost_ret (v := .int .i64 2) (by first | rfl | (simp [results, Try.results77, go_sem]; done) | (simp [results, Try.results77, go_sem]; rfl)) rfl ⟨rfl, (hu6.out.trans hu13.out)⟩
 ·
  rw [if_neg c9] at H
  replace c9 := Bool.eq_false_iff.mpr c9
  have c9n : (t3 != 0) = true := by rw [bne, c9]; rfl
  have c9p : ¬ t3 = 0 := fun e => by simp [e] at c9
  obtain rfl := Option.some.inj H
  go_enter Try.func77, Try.ntmps77
  refine wp_hide (fun Qf hQf => ?_)
  refine wp_seq_k (fun K1 hK1 => ?_)
  refine wp_region_lit ?_
  refine wpList_plain rfl (fun Ko hKo => ?_)
  go_simp
  refine hKo _ _ ?_
  clear hKo Ko
  try simp only [Act.put, nm1, nm2, nm3, i64_w]
  refine wpList_nil ?_
  (try simp only [Exit.then, Exit.inBlock, ↓reduceIte, Nat.reduceEqDiff])
  refine hK1 _ _ ?_
  refine wp_seq_k (fun K2 hK2 => ?_)
  refine wp_region_lit ?_
  refine wpList_plain rfl (fun Ko hKo => ?_)
  go_simp
  refine hKo _ _ ?_
  clear hKo Ko
  try simp only [Act.put, nm1, nm2, nm3, i64_w]
  refine wpList_plain rfl (fun Ko hKo => ?_)
  go_simp
  refine hKo _ _ ?_
  clear hKo Ko
  try simp only [Act.put, nm1, nm2, nm3, i64_w]
  refine step_call (wanted_none rfl) (by first | (go_simp; done) | (go_simp; rfl)) (spec_l01Lines.calls K a0 a2_A a2_c a2 t3 w ha2 A4.out) ?_
  rintro e w5 ⟨rfl, hu⟩
  have hu6 := Aside0.mk hu
  clear hu
  refine ⟨_, rfl, ?_⟩
  simp only [Act.put, nm1, nm2, nm3, i64_w]
  refine wpList_plain rfl (fun Ko hKo => ?_)
  go_simp
  refine hKo _ _ ?_
  clear hKo Ko
  try simp only [Act.put, nm1, nm2, nm3, i64_w]
  refine wpList_nil ?_
  (try simp only [Exit.then, Exit.inBlock, ↓reduceIte, Nat.reduceEqDiff])
  refine hK2 _ _ ?_
  refine wp_seq_k (fun K7 hK7 => ?_)
  refine wp_seq_k (fun K8 hK8 => ?_)
  refine wp_region_lit ?_
  refine wpList_plain rfl (fun Ko hKo => ?_)
  go_simp
  refine hKo _ _ ?_
  clear hKo Ko
  try simp only [Act.put, nm1, nm2, nm3, i64_w]
  refine wpList_plain rfl (fun Ko hKo => ?_)
  go_simp
  refine hKo _ _ ?_
  clear hKo Ko
  try simp only [Act.put, nm1, nm2, nm3, i64_w]
  refine wpList_plain rfl (fun Ko hKo => ?_)
  go_simp
  refine hKo _ _ ?_
  clear hKo Ko
  try simp only [Act.put, nm1, nm2, nm3, i64_w]
  refine step_no rfl ?_
  simp only [Act.put, nm1, nm2, nm3, i64_w]
  refine step_no rfl ?_
  simp only [Act.put, nm1, nm2, nm3, i64_w]
  refine step_no rfl ?_
  simp only [Act.put, nm1, nm2, nm3, i64_w]
  refine wpList_plain rfl (fun Ko hKo => ?_)
  go_simp
  refine hKo _ _ ?_
  clear hKo Ko
  try simp only [Act.put, nm1, nm2, nm3, i64_w]
  refine wpList_nil ?_
  (try simp only [Exit.then, Exit.inBlock, ↓reduceIte, Nat.reduceEqDiff])
  refine hK8 _ _ ?_
  refine wp_cond_false rfl ?_
  refine wp_skip ?_
  (try simp only [Exit.then, Exit.inBlock, ↓reduceIte, Nat.reduceEqDiff])
  refine hK7 _ _ ?_
  refine wp_seq_k (fun K17 hK17 => ?_)
  refine wp_region_lit ?_
  refine wpList_plain rfl (fun Ko hKo => ?_)
  go_simp
  refine hKo _ _ ?_
  clear hKo Ko
  try simp only [Act.put, nm1, nm2, nm3, i64_w]
  refine wpList_plain rfl (fun Ko hKo => ?_)
  go_simp
  refine hKo _ _ ?_
  clear hKo Ko
  try simp only [Act.put, nm1, nm2, nm3, i64_w]
  refine wpList_nil ?_
  (try simp only [Exit.then, Exit.inBlock, ↓reduceIte, Nat.reduceEqDiff])
  refine hK17 _ _ ?_
  refine wp_ret ?_
  (try simp only [Exit.then, Exit.inBlock, ↓reduceIte, Nat.reduceEqDiff])
  refine hQf _ _ _ ?_
  exact bodyPost_ret (v := .int .i64 t3) (by first | rfl | (simp [results, Try.results77, go_sem]; done) | (simp [results, Try.results77, go_sem]; rfl)) rfl ⟨rfl, hu6.out⟩

set_option maxHeartbeats 4000000 in
set_option maxRecDepth 100000 in
theorem spec_l01Mod.calls (K : Nat) (a0 : Int) (a1 : Int) (r0 : Int) (w : World)  (h : spec_l01Mod.f K a0 a1 = some (r0)) :
    Calls Try.prog 118 #[.int .i64 a0, .int .i64 a1] w fun e w' => e = .returned (.int .i64 r0) ∧ Up w w' := by
 have H : ((if (a1 == 0) = true then none else some (Int.tmod (wrap64 ((Int.tmod a0 a1) + a1)) a1)) : Option (Int)) = some (r0) := h
 clear h
 by_cases c3 : (a1 == 0) = true
 ·
  rw [if_pos c3] at H
  have c3n : (a1 != 0) = false := by rw [bne, c3]; rfl
  exact absurd H (by simp)
 ·
  rw [if_neg c3] at H
  replace c3 := Bool.eq_false_iff.mpr c3
  have c3n : (a1 != 0) = true := by rw [bne, c3]; rfl
  have c3p : ¬ a1 = 0 := fun e => by simp [e] at c3
  obtain rfl := Option.some.inj H
  go_enter Try.func118, Try.ntmps118
  refine wp_hide (fun Qf hQf => ?_)
  refine wp_seq_k (fun K1 hK1 => ?_)
  refine wp_region_lit ?_
  refine wpList_plain rfl (fun Ko hKo => ?_)
  go_simp
  refine hKo _ _ ?_
  clear hKo Ko
  try simp only [Act.put, nm1, nm2, nm3, i64_w]
  refine wpList_nil ?_
  (try simp only [Exit.then, Exit.inBlock, ↓reduceIte, Nat.reduceEqDiff])
  refine hK1 _ _ ?_
  refine wp_seq_k (fun K2 hK2 => ?_)
  refine wp_region_lit ?_
  refine wpList_plain rfl (fun Ko hKo => ?_)
  go_simp
  refine hKo _ _ ?_
  clear hKo Ko
  try simp only [Act.put, nm1, nm2, nm3, i64_w]
  refine wpList_plain rfl (fun Ko hKo => ?_)
  go_simp
  refine hKo _ _ ?_
  clear hKo Ko
  try simp only [Act.put, nm1, nm2, nm3, i64_w]
  refine wpList_plain rfl (fun Ko hKo => ?_)
  go_simp
  refine hKo _ _ ?_
  clear hKo Ko
  try simp only [Act.put, nm1, nm2, nm3, i64_w]
  refine wpList_plain rfl (fun Ko hKo => ?_)
  go_simp
  refine hKo _ _ ?_
  clear hKo Ko
  try simp only [Act.put, nm1, nm2, nm3, i64_w]
  refine wpList_plain rfl (fun Ko hKo => ?_)
  go_simp
  refine hKo _ _ ?_
  clear hKo Ko
  try simp only [Act.put, nm1, nm2, nm3, i64_w]
  refine wpList_plain rfl (fun Ko hKo => ?_)
  go_simp
  refine hKo _ _ ?_
  clear hKo Ko
  try simp only [Act.put, nm1, nm2, nm3, i64_w]
  refine wpList_plain rfl (fun Ko hKo => ?_)
  go_simp
  refine hKo _ _ ?_
  clear hKo Ko
  try simp only [Act.put, nm1, nm2, nm3, i64_w]
  refine wpList_plain rfl (fun Ko hKo => ?_)
  go_simp
  refine hKo _ _ ?_
  clear hKo Ko
  try simp only [Act.put, nm1, nm2, nm3, i64_w]
  refine wpList_nil ?_
  (try simp only [Exit.then, Exit.inBlock, ↓reduceIte, Nat.reduceEqDiff])
  refine hK2 _ _ ?_
  refine wp_ret ?_
  (try simp only [Exit.then, Exit.inBlock, ↓reduceIte, Nat.reduceEqDiff])
  refine hQf _ _ _ ?_
  exact bodyPost_ret (v := .int .i64 (Int.tmod (wrap64 ((Int.tmod a0 a1) + a1)) a1)) (by first | rfl | (simp [results, Try.results118, go_sem]; done) | (simp [results, Try.results118, go_sem]; rfl)) rfl ⟨rfl, (Up.refl _)⟩

set_option maxHeartbeats 4000000 in
set_option maxRecDepth 100000 in
theorem spec_l02Direction.calls (K : Nat) (a0 : Int) (a1_0 : Int) (a1_1 : Int) (a1_2 : Int) (r0 : Int) (r1 : Int) (w : World)  (h : spec_l02Direction.f K a0 a1_0 a1_1 a1_2 = some (r0, r1)) :
    Calls Try.prog 123 #[.int .i64 a0, .agg #[.int .i64 a1_0, .int .i64 a1_1, .int .i64 a1_2]] w fun e w' => e = .returned (.agg #[.int .i64 r0, .int .i64 r1]) ∧ Up w w' := by
 have H : (((spec_l01Mod.f K (wrap64 (-a1_1)) a0).bind fun t9 => some (t9, a1_0)) : Option (Int × Int)) = some (r0, r1) := h
 clear h
 replace H := Option.bind_eq_some_iff.mp H
 obtain ⟨t9, A10, H⟩ := H
 replace A10 := Aside0.mk A10
 try dsimp only at H
 simp only [Option.some.injEq, Prod.mk.injEq] at H
 obtain ⟨rfl, rfl⟩ := H
 go_enter Try.func123, Try.ntmps123
 refine wp_hide (fun Qf hQf => ?_)
 refine wp_seq_k (fun K1 hK1 => ?_)
 refine wp_region_lit ?_
 refine step_new (cs := [.int .i64 a1_0, .int .i64 a1_1, .int .i64 a1_2]) (T := 54) (f := fun b => .pointer (some ⟨b, 0, none⟩)) rfl (by first | (go_simp; done) | (go_simp; rfl)) ?_
 intro b2 w3 hu lb hb2
 simp only [Act.put, nm1, nm2, nm3, i64_w]
 have lbb2 := Aside0.mk lb
 have ltb2 := Aside0.mk hb2.lt
 clear lb
 have hu4 := Aside0.mk hu
 clear hu
 refine step_new (cs := [.int .i64 0, .int .i64 0]) (T := 26) (f := fun b => .pointer (some ⟨b, 0, none⟩)) rfl (by first | (go_simp; done) | (go_simp; rfl)) ?_
 intro b5 w6 hu lb hb5
 simp only [Act.put, nm1, nm2, nm3, i64_w]
 have lbb5 := Aside0.mk lb
 have ltb5 := Aside0.mk hb5.lt
 clear lb
 have hu7 := Aside0.mk hu
 clear hu
 refine wpList_nil ?_
 (try simp only [Exit.then, Exit.inBlock, ↓reduceIte, Nat.reduceEqDiff])
 refine hK1 _ _ ?_
 refine wp_seq_k (fun K8 hK8 => ?_)
 refine' wp_region_up 8 [Slot.det _, Slot.det _, Slot.det _, Slot.det _, Slot.det (.int .i64 t9), Slot.det _, Slot.det _, Slot.det _] (by kernel_rfl) (by kernel_rfl) ?main
 case main =>
  simp only [List.take_succ_cons, List.take_zero]
  refine wpK_ops rfl (fun w1 hu => ?_) ?_
  · clear hu
    go_simp
    first | done | rfl
  simp only [Act.put, nm1, nm2, nm3, i64_w]
  refine wpK_ops rfl (fun w1 hu => ?_) ?_
  · have cl0 := ((hb2.up hu7.out).up ((Up.refl _).drew.trans hu)).cell (o := 1) rfl
    go_simp
    first | done | rfl
  simp only [Act.put, nm1, nm2, nm3, i64_w]
  refine wpK_ops rfl (fun w1 hu => ?_) ?_
  · clear hu
    go_simp
    first | done | rfl
  simp only [Act.put, nm1, nm2, nm3, i64_w]
  refine wpK_ops rfl (fun w1 hu => ?_) ?_
  · clear hu
    go_simp
    first | done | rfl
  simp only [Act.put, nm1, nm2, nm3, i64_w]
  refine wpK_ops rfl (fun w1 hu => ?_) ?_
  · have hcl := (spec_l01Mod.calls K (wrap64 (-a1_1)) a0 t9 w1  A10.out)
    clear hu
    replace hcl := Aside0.mk hcl
    go_simp
    exact hcl.out
  simp only [Act.put, nm1, nm2, nm3, i64_w]
  refine wpK_ops rfl (fun w1 hu => ?_) ?_
  · clear hu
    go_simp
    first | done | rfl
  simp only [Act.put, nm1, nm2, nm3, i64_w]
  refine wpK_ops rfl (fun w1 hu => ?_) ?_
  · have cl0 := ((hb2.up hu7.out).up ((Up.refl _).drew.trans hu)).cell (o := 0) rfl
    go_simp
    first | done | rfl
  simp only [Act.put, nm1, nm2, nm3, i64_w]
  refine wpK_ops rfl (fun w1 hu => ?_) ?_
  · clear hu
    go_simp
    first | done | rfl
  simp only [Act.put, nm1, nm2, nm3, i64_w]
  refine wpK_nil ?_
  intro w11 hu hap
  simp only [List.drop_succ_cons, List.drop_zero]
  replace hu := (Up.refl _).drew.trans hu
  clear hap
  have hu12 := Aside0.mk hu
  clear hu
  have hB0 := (hb5.up hu12.out)
  have cl0 := hB0.cell (o := 0) rfl
  have fr0 := hB0.free 0
  have cl1 := hB0.cell (o := 1) rfl
  have fr1 := hB0.free 1
  refine step_store (b := b5) (cs' := [.int .i64 t9, .int .i64 a1_0]) (T := 26) (W' := ((w11.setCell ⟨b5, 0, none⟩ (.int .i64 t9)).setCell ⟨b5, 1, none⟩ (.int .i64 a1_0))) rfl rfl (by first | (go_simp; done) | (go_simp; rfl)) (((Sto.refl _ _).setCell 0 _).setCell 1 _) (((hB0).setCell 0 _).setCell 1 _) ?_
  clear hB0 cl0 fr0 cl1 fr1
  intro w13 hs hb15
  have hs14 := Aside0.mk hs
  clear hs
  refine wpList_nil ?_
  (try simp only [Exit.then, Exit.inBlock, ↓reduceIte, Nat.reduceEqDiff])
  refine hK8 _ _ ?_
  refine wp_ret ?_
  (try simp only [Exit.then, Exit.inBlock, ↓reduceIte, Nat.reduceEqDiff])
  refine hQf _ _ _ ?_
  have cr0 := hb15.cell (o := 0) rfl
  have cr1 := hb15.cell (o := 1) rfl
  exact bodyPost_ret (v := .agg #[.int .i64 t9, .int .i64 a1_0]) (by first | rfl | (simp [results, Try.results123, go_sem, cr0, cr1]; done) | (simp [results, Try.results123, go_sem, cr0, cr1]; rfl)) rfl ⟨rfl, (((hu4.out.trans hu7.out).trans hu12.out).sto (Nat.le_trans (hu4.out.size) lbb5.out) hs14.out)⟩

set_option maxHeartbeats 4000000 in
set_option maxRecDepth 100000 in
theorem spec_l02Product.calls (K : Nat) (a0 : Int) (a1 : Int) (a2_0 : Int) (a2_1 : Int) (a3_0 : Int) (a3_1 : Int) (r0 : Int) (w : World)  (h : spec_l02Product.f K a0 a1 a2_0 a2_1 a3_0 a3_1 = some (r0)) :
    Calls Try.prog 124 #[.int .i64 a0, .int .i64 a1, .agg #[.int .i64 a2_0, .int .i64 a2_1], .agg #[.int .i64 a3_0, .int .i64 a3_1]] w fun e w' => e = .returned (.int .i64 r0) ∧ Up w w' := by
 have H : ((if (a1 == 0) = true then ((spec_l01Mod.f K (wrap64 ((wrap64 (a2_0 * a3_0)) + (wrap64 (a2_1 * a3_1)))) a0).bind fun t13 => some t13) else (if (a1 == 1) = true then ((spec_l01Mod.f K (wrap64 ((wrap64 (a2_0 * a3_0)) - (wrap64 (a2_1 * a3_1)))) a0).bind fun t20 => some t20) else ((spec_l01Mod.f K (wrap64 ((wrap64 (a2_0 * a3_1)) + (wrap64 (a2_1 * a3_0)))) a0).bind fun t25 => some t25))) : Option (Int)) = some (r0) := h
 clear h
 by_cases c11 : (a1 == 0) = true
 ·
  rw [if_pos c11] at H
  have c11n : (a1 != 0) = false := by rw [bne, c11]; rfl
  replace H := Option.bind_eq_some_iff.mp H
  obtain ⟨t13, A14, H⟩ := H
  replace A14 := Aside0.mk A14
  try dsimp only at H
  obtain rfl := Option.some.inj H
  go_enter Try.func124, Try.ntmps124
  refine wp_hide (fun Qf hQf => ?_)
  refine wp_seq_k (fun K1 hK1 => ?_)
  refine wp_region_lit ?_
  refine step_new (cs := [.int .i64 a2_0, .int .i64 a2_1]) (T := 26) (f := fun b => .pointer (some ⟨b, 0, none⟩)) rfl (by first | (go_simp; done) | (go_simp; rfl)) ?_
  intro b2 w3 hu lb hb2
  simp only [Act.put, nm1, nm2, nm3, i64_w]
  have lbb2 := Aside0.mk lb
  have ltb2 := Aside0.mk hb2.lt
  clear lb
  have hu4 := Aside0.mk hu
  clear hu
  refine step_new (cs := [.int .i64 a3_0, .int .i64 a3_1]) (T := 26) (f := fun b => .pointer (some ⟨b, 0, none⟩)) rfl (by first | (go_simp; done) | (go_simp; rfl)) ?_
  intro b5 w6 hu lb hb5
  simp only [Act.put, nm1, nm2, nm3, i64_w]
  have lbb5 := Aside0.mk lb
  have ltb5 := Aside0.mk hb5.lt
  clear lb
  have hu7 := Aside0.mk hu
  clear hu
  refine wpList_plain rfl (fun Ko hKo => ?_)
  go_simp
  refine hKo _ _ ?_
  clear hKo Ko
  try simp only [Act.put, nm1, nm2, nm3, i64_w]
  refine wpList_nil ?_
  (try simp only [Exit.then, Exit.inBlock, ↓reduceIte, Nat.reduceEqDiff])
  refine hK1 _ _ ?_
  refine wp_seq_k (fun K8 hK8 => ?_)
  refine wp_seq_k (fun K9 hK9 => ?_)
  refine wp_region_lit ?_
  refine wpList_plain rfl (fun Ko hKo => ?_)
  go_simp
  refine hKo _ _ ?_
  clear hKo Ko
  try simp only [Act.put, nm1, nm2, nm3, i64_w]
  refine wpList_nil ?_
  (try simp only [Exit.then, Exit.inBlock, ↓reduceIte, Nat.reduceEqDiff])
  refine hK9 _ _ ?_
  refine wp_block ?_
  refine wp_seq_k (fun K10 hK10 => ?_)
  refine wp_region_lit ?_
  refine wpList_plain rfl (fun Ko hKo => ?_)
  go_simp
  refine hKo _ _ ?_
  clear hKo Ko
  try simp only [Act.put, nm1, nm2, nm3, i64_w]
  refine wpList_plain rfl (fun Ko hKo => ?_)
  go_simp
  refine hKo _ _ ?_
  clear hKo Ko
  try simp only [Act.put, nm1, nm2, nm3, i64_w]
  refine wpList_nil ?_
  (try simp only [Exit.then, Exit.inBlock, ↓reduceIte, Nat.reduceEqDiff])
  refine hK10 _ _ ?_
  refine wp_cond_true rfl ?_
  refine wp_seq_k (fun K12 hK12 => ?_)
  refine wp_region_lit ?_
  refine wpList_plain rfl (fun Ko hKo => ?_)
  go_simp
  refine hKo _ _ ?_
  clear hKo Ko
  try simp only [Act.put, nm1, nm2, nm3, i64_w]
  have cl0 := (hb2.up hu7.out).cell (o := 0) rfl
  refine wpList_plain rfl (fun Ko hKo => ?_)
  go_simp
  refine hKo _ _ ?_
  clear hKo Ko
  clear cl0
  try simp only [Act.put, nm1, nm2, nm3, i64_w]
  refine wpList_plain rfl (fun Ko hKo => ?_)
  go_simp
  refine hKo _ _ ?_
  clear hKo Ko
  try simp only [Act.put, nm1, nm2, nm3, i64_w]
  have cl0 := hb5.cell (o := 0) rfl
  refine wpList_plain rfl (fun Ko hKo => ?_)
  go_simp
  refine hKo _ _ ?_
  clear hKo Ko
  clear cl0
  try simp only [Act.put, nm1, nm2, nm3, i64_w]
  refine wpList_plain rfl (fun Ko hKo => ?_)
  go_simp
  refine hKo _ _ ?_
  clear hKo Ko
  try simp only [Act.put, nm1, nm2, nm3, i64_w]
  refine wpList_plain rfl (fun Ko hKo => ?_)
  go_simp
  refine hKo _ _ ?_
  clear hKo Ko
  try simp only [Act.put, nm1, nm2, nm3, i64_w]
  have cl0 := (hb2.up hu7.out).cell (o := 1) rfl
  refine wpList_plain rfl (fun Ko hKo => ?_)
  go_simp
  refine hKo _ _ ?_
  clear hKo Ko
  clear cl0
  try simp only [Act.put, nm1, nm2, nm3, i64_w]
  refine wpList_plain rfl (fun Ko hKo => ?_)
  go_simp
  refine hKo _ _ ?_
  clear hKo Ko
  try simp only [Act.put, nm1, nm2, nm3, i64_w]
  have cl0 := hb5.cell (o := 1) rfl
  refine wpList_plain rfl (fun Ko hKo => ?_)
  go_simp
  refine hKo _ _ ?_
  clear hKo Ko
  clear cl0
  try simp only [Act.put, nm1, nm2, nm3, i64_w]
  refine wpList_plain rfl (fun Ko hKo => ?_)
  go_simp
  refine hKo _ _ ?_
  clear hKo Ko
  try simp only [Act.put, nm1, nm2, nm3, i64_w]
  refine wpList_plain rfl (fun Ko hKo => ?_)
  go_simp
  refine hKo _ _ ?_
  clear hKo Ko
  try simp only [Act.put, nm1, nm2, nm3, i64_w]
  refine wpList_plain rfl (fun Ko hKo => ?_)
  go_simp
  refine hKo _ _ ?_
  clear hKo Ko
  try simp only [Act.put, nm1, nm2, nm3, i64_w]
  refine step_call (wanted_none rfl) (by first | (go_simp; done) | (go_simp; rfl)) (spec_l01Mod.calls K (wrap64 ((wrap64 (a2_0 * a3_0)) + (wrap64 (a2_1 * a3_1)))) a0 t13 w6  A14.out) ?_
  rintro e w15 ⟨rfl, hu⟩
  have hu16 := Aside0.mk hu
  clear hu
  refine ⟨_, rfl, ?_⟩
  simp only [Act.put, nm1, nm2, nm3, i64_w]
  refine wpList_plain rfl (fun Ko hKo => ?_)
  go_simp
  refine hKo _ _ ?_
  clear hKo Ko
  try simp only [Act.put, nm1, nm2, nm3, i64_w]
  refine wpList_nil ?_
  (try simp only [Exit.then, Exit.inBlock, ↓reduceIte, Nat.reduceEqDiff])
  refine hK12 _ _ ?_
  refine wp_ret ?_
  (try simp only [Exit.then, Exit.inBlock, ↓reduceIte, Nat.reduceEqDiff])
  refine hQf _ _ _ ?_
  exact bodyPost_ret (v := .int .i64 t13) (by first | rfl | (simp [results, Try.results124, go_sem]; done) | (simp [results, Try.results124, go_sem]; rfl)) rfl ⟨rfl, ((hu4.out.trans hu7.out).trans hu16.out)⟩
 ·
  rw [if_neg c11] at H
  replace c11 := Bool.eq_false_iff.mpr c11
  have c11n : (a1 != 0) = true := by rw [bne, c11]; rfl
  have c11p : ¬ a1 = 0 := fun e => by simp [e] at c11
  by_cases c18 : (a1 == 1) = true
  ·
   rw [if_pos c18] at H
   have c18n : (a1 != 1) = false := by rw [bne, c18]; rfl
   replace H := Option.bind_eq_some_iff.mp H
   obtain ⟨t20, A21, H⟩ := H
   replace A21 := Aside0.mk A21
   try dsimp only at H
   obtain rfl := Option.some.inj H
   go_enter Try.func124, Try.ntmps124
   refine wp_hide (fun Qf hQf => ?_)
   refine wp_seq_k (fun K1 hK1 => ?_)
   refine wp_region_lit ?_
   refine step_new (cs := [.int .i64 a2_0, .int .i64 a2_1]) (T := 26) (f := fun b => .pointer (some ⟨b, 0, none⟩)) rfl (by first | (go_simp; done) | (go_simp; rfl)) ?_
   intro b2 w3 hu lb hb2
   simp only [Act.put, nm1, nm2, nm3, i64_w]
   have lbb2 := Aside0.mk lb
   have ltb2 := Aside0.mk hb2.lt
   clear lb
   have hu4 := Aside0.mk hu
   clear hu
   refine step_new (cs := [.int .i64 a3_0, .int .i64 a3_1]) (T := 26) (f := fun b => .pointer (some ⟨b, 0, none⟩)) rfl (by first | (go_simp; done) | (go_simp; rfl)) ?_
   intro b5 w6 hu lb hb5
   simp only [Act.put, nm1, nm2, nm3, i64_w]
   have lbb5 := Aside0.mk lb
   have ltb5 := Aside0.mk hb5.lt
   clear lb
   have hu7 := Aside0.mk hu
   clear hu
   refine wpList_plain rfl (fun Ko hKo => ?_)
   go_simp
   refine hKo _ _ ?_
   clear hKo Ko
   try simp only [Act.put, nm1, nm2, nm3, i64_w]
   refine wpList_nil ?_
   (try simp only [Exit.then, Exit.inBlock, ↓reduceIte, Nat.reduceEqDiff])
   refine hK1 _ _ ?_
   refine wp_seq_k (fun K8 hK8 => ?_)
   refine wp_seq_k (fun K9 hK9 => ?_)
   refine wp_region_lit ?_
   refine wpList_plain rfl (fun Ko hKo => ?_)
   go_simp
   refine hKo _ _ ?_
   clear hKo Ko
   try simp only [Act.put, nm1, nm2, nm3, i64_w]
   refine wpList_nil ?_
   (try simp only [Exit.then, Exit.inBlock, ↓reduceIte, Nat.reduceEqDiff])
   refine hK9 _ _ ?_
   refine wp_block ?_
   refine wp_seq_k (fun K10 hK10 => ?_)
   refine wp_region_lit ?_
   refine wpList_plain rfl (fun Ko hKo => ?_)
   go_simp
   refine hKo _ _ ?_
   clear hKo Ko
   try simp only [Act.put, nm1, nm2, nm3, i64_w]
   refine wpList_plain rfl (fun Ko hKo => ?_)
   go_simp
   refine hKo _ _ ?_
   clear hKo Ko
   try simp only [Act.put, nm1, nm2, nm3, i64_w]
   refine wpList_nil ?_
   (try simp only [Exit.then, Exit.inBlock, ↓reduceIte, Nat.reduceEqDiff])
   refine hK10 _ _ ?_
   refine wp_cond_false rfl ?_
   refine wp_seq_k (fun K17 hK17 => ?_)
   refine wp_region_lit ?_
   refine wpList_plain rfl (fun Ko hKo => ?_)
   go_simp
   refine hKo _ _ ?_
   clear hKo Ko
   try simp only [Act.put, nm1, nm2, nm3, i64_w]
   refine wpList_plain rfl (fun Ko hKo => ?_)
   go_simp
   refine hKo _ _ ?_
   clear hKo Ko
   try simp only [Act.put, nm1, nm2, nm3, i64_w]
   refine wpList_nil ?_
   (try simp only [Exit.then, Exit.inBlock, ↓reduceIte, Nat.reduceEqDiff])
   refine hK17 _ _ ?_
   refine wp_cond_true rfl ?_
   refine wp_seq_k (fun K19 hK19 => ?_)
   refine wp_region_lit ?_
   refine wpList_plain rfl (fun Ko hKo => ?_)
   go_simp
   refine hKo _ _ ?_
   clear hKo Ko
   try simp only [Act.put, nm1, nm2, nm3, i64_w]
   have cl0 := (hb2.up hu7.out).cell (o := 0) rfl
   refine wpList_plain rfl (fun Ko hKo => ?_)
   go_simp
   refine hKo _ _ ?_
   clear hKo Ko
   clear cl0
   try simp only [Act.put, nm1, nm2, nm3, i64_w]
   refine wpList_plain rfl (fun Ko hKo => ?_)
   go_simp
   refine hKo _ _ ?_
   clear hKo Ko
   try simp only [Act.put, nm1, nm2, nm3, i64_w]
   have cl0 := hb5.cell (o := 0) rfl
   refine wpList_plain rfl (fun Ko hKo => ?_)
   go_simp
   refine hKo _ _ ?_
   clear hKo Ko
   clear cl0
   try simp only [Act.put, nm1, nm2, nm3, i64_w]
   refine wpList_plain rfl (fun Ko hKo => ?_)
   go_simp
   refine hKo _ _ ?_
   clear hKo Ko
   try simp only [Act.put, nm1, nm2, nm3, i64_w]
   refine wpList_plain rfl (fun Ko hKo => ?_)
   go_simp
   refine hKo _ _ ?_
   clear hKo Ko
   try simp only [Act.put, nm1, nm2, nm3, i64_w]
   have cl0 := (hb2.up hu7.out).cell (o := 1) rfl
   refine wpList_plain rfl (fun Ko hKo => ?_)
   go_simp
   refine hKo _ _ ?_
   clear hKo Ko
   clear cl0
   try simp only [Act.put, nm1, nm2, nm3, i64_w]
   refine wpList_plain rfl (fun Ko hKo => ?_)
   go_simp
   refine hKo _ _ ?_
   clear hKo Ko
   try simp only [Act.put, nm1, nm2, nm3, i64_w]
   have cl0 := hb5.cell (o := 1) rfl
   refine wpList_plain rfl (fun Ko hKo => ?_)
   go_simp
   refine hKo _ _ ?_
   clear hKo Ko
   clear cl0
   try simp only [Act.put, nm1, nm2, nm3, i64_w]
   refine wpList_plain rfl (fun Ko hKo => ?_)
   go_simp
   refine hKo _ _ ?_
   clear hKo Ko
   try simp only [Act.put, nm1, nm2, nm3, i64_w]
   refine wpList_plain rfl (fun Ko hKo => ?_)
   go_simp
   refine hKo _ _ ?_
   clear hKo Ko
   try simp only [Act.put, nm1, nm2, nm3, i64_w]
   refine wpList_plain rfl (fun Ko hKo => ?_)
   go_simp
   refine hKo _ _ ?_
   clear hKo Ko
   try simp only [Act.put, nm1, nm2, nm3, i64_w]
   refine step_call (wanted_none rfl) (by first | (go_simp; done) | (go_simp; rfl)) (spec_l01Mod.calls K (wrap64 ((wrap64 (a2_0 * a3_0)) - (wrap64 (a2_1 * a3_1)))) a0 t20 w6  A21.out) ?_
   rintro e w22 ⟨rfl, hu⟩
   have hu23 := Aside0.mk hu
   clear hu
   refine ⟨_, rfl, ?_⟩
   simp only [Act.put, nm1, nm2, nm3, i64_w]
   refine wpList_plain rfl (fun Ko hKo => ?_)
   go_simp
   refine hKo _ _ ?_
   clear hKo Ko
   try simp only [Act.put, nm1, nm2, nm3, i64_w]
   refine wpList_nil ?_
   (try simp only [Exit.then, Exit.inBlock, ↓reduceIte, Nat.reduceEqDiff])
   refine hK19 _ _ ?_
   refine wp_ret ?_
   (try simp only [Exit.then, Exit.inBlock, ↓reduceIte, Nat.reduceEqDiff])
   refine hQf _ _ _ ?_
   exact bodyPost_ret (v := .int .i64 t20) (by first | rfl | (simp [results, Try.results124, go_sem]; done) | (simp [results, Try.results124, go_sem]; rfl)) rfl ⟨rfl, ((hu4.out.trans hu7.out).trans hu23.out)⟩
  ·
   rw [if_neg c18] at H
   replace c18 := Bool.eq_false_iff.mpr c18
   have c18n : (a1 != 1) = true := by rw [bne, c18]; rfl
   have c18p : ¬ a1 = 1 := fun e => by simp [e] at c18
   replace H := Option.bind_eq_some_iff.mp H
   obtain ⟨t25, A26, H⟩ := H
   replace A26 := Aside0.mk A26
   try dsimp only at H
   obtain rfl := Option.some.inj H
   go_enter Try.func124, Try.ntmps124
   refine wp_hide (fun Qf hQf => ?_)
   refine wp_seq_k (fun K1 hK1 => ?_)
   refine wp_region_lit ?_
   refine step_new (cs := [.int .i64 a2_0, .int .i64 a2_1]) (T := 26) (f := fun b => .pointer (some ⟨b, 0, none⟩)) rfl (by first | (go_simp; done) | (go_simp; rfl)) ?_
   intro b2 w3 hu lb hb2
   simp only [Act.put, nm1, nm2, nm3, i64_w]
   have lbb2 := Aside0.mk lb
   have ltb2 := Aside0.mk hb2.lt
   clear lb
   have hu4 := Aside0.mk hu
   clear hu
   refine step_new (cs := [.int .i64 a3_0, .int .i64 a3_1]) (T := 26) (f := fun b => .pointer (some ⟨b, 0, none⟩)) rfl (by first | (go_simp; done) | (go_simp; rfl)) ?_
   intro b5 w6 hu lb hb5
   simp only [Act.put, nm1, nm2, nm3, i64_w]
   have lbb5 := Aside0.mk lb
   have ltb5 := Aside0.mk hb5.lt
   clear lb
   have hu7 := Aside0.mk hu
   clear hu
   refine wpList_plain rfl (fun Ko hKo => ?_)
   go_simp
   refine hKo _ _ ?_
   clear hKo Ko
   try simp only [Act.put, nm1, nm2, nm3, i64_w]
   refine wpList_nil ?_
   (try simp only [Exit.then, Exit.inBlock, ↓reduceIte, Nat.reduceEqDiff])
   refine hK1 _ _ ?_
   refine wp_seq_k (fun K8 hK8 => ?_)
   refine wp_seq_k (fun K9 hK9 => ?_)
   refine wp_region_lit ?_
   refine wpList_plain rfl (fun Ko hKo => ?_)
   go_simp
   refine hKo _ _ ?_
   clear hKo Ko
   try simp only [Act.put, nm1, nm2, nm3, i64_w]
   refine wpList_nil ?_
   (try simp only [Exit.then, Exit.inBlock, ↓reduceIte, Nat.reduceEqDiff])
   refine hK9 _ _ ?_
   refine wp_block ?_
   refine wp_seq_k (fun K10 hK10 => ?_)
   refine wp_region_lit ?_
   refine wpList_plain rfl (fun Ko hKo => ?_)
   go_simp
   refine hKo _ _ ?_
   clear hKo Ko
   try simp only [Act.put, nm1, nm2, nm3, i64_w]
   refine wpList_plain rfl (fun Ko hKo => ?_)
   go_simp
   refine hKo _ _ ?_
   clear hKo Ko
   try simp only [Act.put, nm1, nm2, nm3, i64_w]
   refine wpList_nil ?_
   (try simp only [Exit.then, Exit.inBlock, ↓reduceIte, Nat.reduceEqDiff])
   refine hK10 _ _ ?_
   refine wp_cond_false rfl ?_
   refine wp_seq_k (fun K17 hK17 => ?_)
   refine wp_region_lit ?_
   refine wpList_plain rfl (fun Ko hKo => ?_)
   go_simp
   refine hKo _ _ ?_
   clear hKo Ko
   try simp only [Act.put, nm1, nm2, nm3, i64_w]
   refine wpList_plain rfl (fun Ko hKo => ?_)
   go_simp
   refine hKo _ _ ?_
   clear hKo Ko
   try simp only [Act.put, nm1, nm2, nm3, i64_w]
   refine wpList_nil ?_
   (try simp only [Exit.then, Exit.inBlock, ↓reduceIte, Nat.reduceEqDiff])
   refine hK17 _ _ ?_
   refine wp_cond_false rfl ?_
   refine wp_skip ?_
   (try simp only [Exit.then, Exit.inBlock, ↓reduceIte, Nat.reduceEqDiff])
   refine hK8 _ _ ?_
   refine wp_seq_k (fun K24 hK24 => ?_)
   refine wp_region_lit ?_
   refine wpList_plain rfl (fun Ko hKo => ?_)
   go_simp
   refine hKo _ _ ?_
   clear hKo Ko
   try simp only [Act.put, nm1, nm2, nm3, i64_w]
   have cl0 := (hb2.up hu7.out).cell (o := 0) rfl
   refine wpList_plain rfl (fun Ko hKo => ?_)
   go_simp
   refine hKo _ _ ?_
   clear hKo Ko
   clear cl0
   try simp only [Act.put, nm1, nm2, nm3, i64_w]
   refine wpList_plain rfl (fun Ko hKo => ?_)
   go_simp
   refine hKo _ _ ?_
   clear hKo Ko
   try simp only [Act.put, nm1, nm2, nm3, i64_w]
   have cl0 := hb5.cell (o := 1) rfl
   refine wpList_plain rfl (fun Ko hKo => ?_)
   go_simp
   refine hKo _ _ ?_
   clear hKo Ko
   clear cl0
   try simp only [Act.put, nm1, nm2, nm3, i64_w]
   refine wpList_plain rfl (fun Ko hKo => ?_)
   go_simp
   refine hKo _ _ ?_
   clear hKo Ko
   try simp only [Act.put, nm1, nm2, nm3, i64_w]
   refine wpList_plain rfl (fun Ko hKo => ?_)
   go_simp
   refine hKo _ _ ?_
   clear hKo Ko
   try simp only [Act.put, nm1, nm2, nm3, i64_w]
   have cl0 := (hb2.up hu7.out).cell (o := 1) rfl
   refine wpList_plain rfl (fun Ko hKo => ?_)
   go_simp
   refine hKo _ _ ?_
   clear hKo Ko
   clear cl0
   try simp only [Act.put, nm1, nm2, nm3, i64_w]
   refine wpList_plain rfl (fun Ko hKo => ?_)
   go_simp
   refine hKo _ _ ?_
   clear hKo Ko
   try simp only [Act.put, nm1, nm2, nm3, i64_w]
   have cl0 := hb5.cell (o := 0) rfl
   refine wpList_plain rfl (fun Ko hKo => ?_)
   go_simp
   refine hKo _ _ ?_
   clear hKo Ko
   clear cl0
   try simp only [Act.put, nm1, nm2, nm3, i64_w]
   refine wpList_plain rfl (fun Ko hKo => ?_)
   go_simp
   refine hKo _ _ ?_
   clear hKo Ko
   try simp only [Act.put, nm1, nm2, nm3, i64_w]
   refine wpList_plain rfl (fun Ko hKo => ?_)
   go_simp
   refine hKo _ _ ?_
   clear hKo Ko
   try simp only [Act.put, nm1, nm2, nm3, i64_w]
   refine wpList_plain rfl (fun Ko hKo => ?_)
   go_simp
   refine hKo _ _ ?_
   clear hKo Ko
   try simp only [Act.put, nm1, nm2, nm3, i64_w]
   refine step_call (wanted_none rfl) (by first | (go_simp; done) | (go_simp; rfl)) (spec_l01Mod.calls K (wrap64 ((wrap64 (a2_0 * a3_1)) + (wrap64 (a2_1 * a3_0)))) a0 t25 w6  A26.out) ?_
   rintro e w27 ⟨rfl, hu⟩
   have hu28 := Aside0.mk hu
   clear hu
   refine ⟨_, rfl, ?_⟩
   simp only [Act.put, nm1, nm2, nm3, i64_w]
   refine wpList_plain rfl (fun Ko hKo => ?_)
   go_simp
   refine hKo _ _ ?_
   clear hKo Ko
   try simp only [Act.put, nm1, nm2, nm3, i64_w]
   refine wpList_nil ?_
   (try simp only [Exit.then, Exit.inBlock, ↓reduceIte, Nat.reduceEqDiff])
   refine hK24 _ _ ?_
   refine wp_ret ?_
   (try simp only [Exit.then, Exit.inBlock, ↓reduceIte, Nat.reduceEqDiff])
   refine hQf _ _ _ ?_
   exact bodyPost_ret (v := .int .i64 t25) (by first | rfl | (simp [results, Try.results124, go_sem]; done) | (simp [results, Try.results124, go_sem]; rfl)) rfl ⟨rfl, ((hu4.out.trans hu7.out).trans hu28.out)⟩

set_option maxHeartbeats 4000000 in
set_option maxRecDepth 100000 in
theorem spec_l03Null.calls (K : Nat) (a0 : Int) (a1 : Int) (a2_0 : Int) (a2_1 : Int) (a2_2 : Int) (r0 : Bool) (w : World)  (h : spec_l03Null.f K a0 a1 a2_0 a2_1 a2_2 = some (r0)) :
    Calls Try.prog 78 #[.int .i64 a0, .int .i64 a1, .agg #[.int .i64 a2_0, .int .i64 a2_1, .int .i64 a2_2]] w fun e w' => e = .returned (.bool r0) ∧ Up w w' := by
 have H : (((spec_l02Direction.f K a0 a2_0 a2_1 a2_2).bind fun (t6, t7) => ((spec_l02Product.f K a0 a1 t6 t7 t6 t7).bind fun t18 => some (t18 == 0))) : Option (Bool)) = some (r0) := h
 clear h
 replace H := Option.bind_eq_some_iff.mp H
 obtain ⟨⟨t6, t7⟩, A8, H⟩ := H
 replace A8 := Aside0.mk A8
 try dsimp only at H
 replace H := Option.bind_eq_some_iff.mp H
 obtain ⟨t18, A19, H⟩ := H
 replace A19 := Aside0.mk A19
 try dsimp only at H
 obtain rfl := Option.some.inj H
 go_enter Try.func78, Try.ntmps78
 refine wp_hide (fun Qf hQf => ?_)
 refine wp_seq_k (fun K1 hK1 => ?_)
 refine wp_region_lit ?_
 refine step_new (cs := [.int .i64 a2_0, .int .i64 a2_1, .int .i64 a2_2]) (T := 54) (f := fun b => .pointer (some ⟨b, 0, none⟩)) rfl (by first | (go_simp; done) | (go_simp; rfl)) ?_
 intro b2 w3 hu lb hb2
 simp only [Act.put, nm1, nm2, nm3, i64_w]
 have lbb2 := Aside0.mk lb
 have ltb2 := Aside0.mk hb2.lt
 clear lb
 have hu4 := Aside0.mk hu
 clear hu
 refine wpList_plain rfl (fun Ko hKo => ?_)
 go_simp
 refine hKo _ _ ?_
 clear hKo Ko
 try simp only [Act.put, nm1, nm2, nm3, i64_w]
 refine wpList_nil ?_
 (try simp only [Exit.then, Exit.inBlock, ↓reduceIte, Nat.reduceEqDiff])
 refine hK1 _ _ ?_
 refine wp_seq_k (fun K5 hK5 => ?_)
 refine wp_region_lit ?_
 refine wpList_plain rfl (fun Ko hKo => ?_)
 go_simp
 refine hKo _ _ ?_
 clear hKo Ko
 try simp only [Act.put, nm1, nm2, nm3, i64_w]
 have cl0 := hb2.cell (o := 0) rfl
 have cl1 := hb2.cell (o := 1) rfl
 have cl2 := hb2.cell (o := 2) rfl
 refine wpList_plain rfl (fun Ko hKo => ?_)
 go_simp
 refine hKo _ _ ?_
 clear hKo Ko
 clear cl0 cl1 cl2
 try simp only [Act.put, nm1, nm2, nm3, i64_w]
 refine step_call (wanted_none rfl) (by first | (go_simp; done) | (go_simp; rfl)) (spec_l02Direction.calls K a0 a2_0 a2_1 a2_2 t6 t7 w3  A8.out) ?_
 rintro e w9 ⟨rfl, hu⟩
 have hu10 := Aside0.mk hu
 clear hu
 refine ⟨_, rfl, ?_⟩
 simp only [Act.put, nm1, nm2, nm3, i64_w]
 refine step_new (cs := [.int .i64 0, .int .i64 0]) (T := 26) (f := fun b => .pointer (some ⟨b, 0, none⟩)) rfl (by first | (go_simp; done) | (go_simp; rfl)) ?_
 intro b11 w12 hu lb hb11
 simp only [Act.put, nm1, nm2, nm3, i64_w]
 have lbb11 := Aside0.mk lb
 have ltb11 := Aside0.mk hb11.lt
 clear lb
 have hu13 := Aside0.mk hu
 clear hu
 have hB0 := hb11
 have cl0 := hB0.cell (o := 0) rfl
 have fr0 := hB0.free 0
 have cl1 := hB0.cell (o := 1) rfl
 have fr1 := hB0.free 1
 refine step_store (b := b11) (cs' := [.int .i64 t6, .int .i64 t7]) (T := 26) (W' := ((w12.setCell ⟨b11, 0, none⟩ (.int .i64 t6)).setCell ⟨b11, 1, none⟩ (.int .i64 t7))) rfl rfl (by first | (go_simp; done) | (go_simp; rfl)) (((Sto.refl _ _).setCell 0 _).setCell 1 _) (((hB0).setCell 0 _).setCell 1 _) ?_
 clear hB0 cl0 fr0 cl1 fr1
 intro w14 hs hb16
 have hs15 := Aside0.mk hs
 clear hs
 refine wpList_nil ?_
 (try simp only [Exit.then, Exit.inBlock, ↓reduceIte, Nat.reduceEqDiff])
 refine hK5 _ _ ?_
 refine wp_seq_k (fun K17 hK17 => ?_)
 refine wp_region_lit ?_
 refine wpList_plain rfl (fun Ko hKo => ?_)
 go_simp
 refine hKo _ _ ?_
 clear hKo Ko
 try simp only [Act.put, nm1, nm2, nm3, i64_w]
 refine wpList_plain rfl (fun Ko hKo => ?_)
 go_simp
 refine hKo _ _ ?_
 clear hKo Ko
 try simp only [Act.put, nm1, nm2, nm3, i64_w]
 have cl0 := hb16.cell (o := 0) rfl
 have cl1 := hb16.cell (o := 1) rfl
 refine wpList_plain rfl (fun Ko hKo => ?_)
 go_simp
 refine hKo _ _ ?_
 clear hKo Ko
 clear cl0 cl1
 try simp only [Act.put, nm1, nm2, nm3, i64_w]
 have cl0 := hb16.cell (o := 0) rfl
 have cl1 := hb16.cell (o := 1) rfl
 refine wpList_plain rfl (fun Ko hKo => ?_)
 go_simp
 refine hKo _ _ ?_
 clear hKo Ko
 clear cl0 cl1
 try simp only [Act.put, nm1, nm2, nm3, i64_w]
 refine step_call (wanted_none rfl) (by first | (go_simp; done) | (go_simp; rfl)) (spec_l02Product.calls K a0 a1 t6 t7 t6 t7 t18 w14  A19.out) ?_
 rintro e w20 ⟨rfl, hu⟩
 have hu21 := Aside0.mk hu
 clear hu
 refine ⟨_, rfl, ?_⟩
 simp only [Act.put, nm1, nm2, nm3, i64_w]
 refine wpList_plain rfl (fun Ko hKo => ?_)
 go_simp
 refine hKo _ _ ?_
 clear hKo Ko
 try simp only [Act.put, nm1, nm2, nm3, i64_w]
 refine wpList_plain rfl (fun Ko hKo => ?_)
 go_simp
 refine hKo _ _ ?_
 clear hKo Ko
 try simp only [Act.put, nm1, nm2, nm3, i64_w]
 refine wpList_nil ?_
 (try simp only [Exit.then, Exit.inBlock, ↓reduceIte, Nat.reduceEqDiff])
 refine hK17 _ _ ?_
 refine wp_ret ?_
 (try simp only [Exit.then, Exit.inBlock, ↓reduceIte, Nat.reduceEqDiff])
 refine hQf _ _ _ ?_
 exact bodyPost_ret (v := .bool (t18 == 0)) (by first | rfl | (simp [results, Try.results78, go_sem]; done) | (simp [results, Try.results78, go_sem]; rfl)) rfl ⟨rfl, ((((hu4.out.trans hu10.out).trans hu13.out).sto (Nat.le_trans ((Nat.le_trans (hu4.out.size) hu10.out.size)) lbb11.out) hs15.out).trans hu21.out)⟩

set_option maxHeartbeats 4000000 in
set_option maxRecDepth 100000 in
theorem spec_l01Inverse.calls (K : Nat) (a0 : Int) (a1 : Int) (r0 : Int) (w : World)  (h : spec_l01Inverse.f K a0 a1 = some (r0)) :
    Calls Try.prog 120 #[.int .i64 a0, .int .i64 a1] w fun e w' => e = .returned (.int .i64 r0) ∧ Up w w' := by
 have H : (((spec_l01Mod.f K a0 a1).bind fun t3 => (spec_l01Inverse.l0 K a1 K 1 t3 (wrap64 (a1 - 2)))) : Option (Int)) = some (r0) := h
 clear h
 replace H := Option.bind_eq_some_iff.mp H
 obtain ⟨t3, A4, H⟩ := H
 replace A4 := Aside0.mk A4
 try dsimp only at H
 go_enter Try.func120, Try.ntmps120
 refine wp_hide (fun Qf hQf => ?_)
 refine wp_seq_k (fun K1 hK1 => ?_)
 refine wp_region_lit ?_
 refine wpList_plain rfl (fun Ko hKo => ?_)
 go_simp
 refine hKo _ _ ?_
 clear hKo Ko
 try simp only [Act.put, nm1, nm2, nm3, i64_w]
 refine wpList_nil ?_
 (try simp only [Exit.then, Exit.inBlock, ↓reduceIte, Nat.reduceEqDiff])
 refine hK1 _ _ ?_
 refine wp_seq_k (fun K2 hK2 => ?_)
 refine wp_region_lit ?_
 refine wpList_plain rfl (fun Ko hKo => ?_)
 go_simp
 refine hKo _ _ ?_
 clear hKo Ko
 try simp only [Act.put, nm1, nm2, nm3, i64_w]
 refine wpList_plain rfl (fun Ko hKo => ?_)
 go_simp
 refine hKo _ _ ?_
 clear hKo Ko
 try simp only [Act.put, nm1, nm2, nm3, i64_w]
 refine step_call (wanted_none rfl) (by first | (go_simp; done) | (go_simp; rfl)) (spec_l01Mod.calls K a0 a1 t3 w  A4.out) ?_
 rintro e w5 ⟨rfl, hu⟩
 have hu6 := Aside0.mk hu
 clear hu
 refine ⟨_, rfl, ?_⟩
 simp only [Act.put, nm1, nm2, nm3, i64_w]
 refine wpList_plain rfl (fun Ko hKo => ?_)
 go_simp
 refine hKo _ _ ?_
 clear hKo Ko
 try simp only [Act.put, nm1, nm2, nm3, i64_w]
 refine wpList_plain rfl (fun Ko hKo => ?_)
 go_simp
 refine hKo _ _ ?_
 clear hKo Ko
 try simp only [Act.put, nm1, nm2, nm3, i64_w]
 refine wpList_nil ?_
 (try simp only [Exit.then, Exit.inBlock, ↓reduceIte, Nat.reduceEqDiff])
 refine hK2 _ _ ?_
 refine wp_seq_k (fun K7 hK7 => ?_)
 refine wp_seq_k (fun K8 hK8 => ?_)
 refine wp_region_lit ?_
 refine wpList_plain rfl (fun Ko hKo => ?_)
 go_simp
 refine hKo _ _ ?_
 clear hKo Ko
 try simp only [Act.put, nm1, nm2, nm3, i64_w]
 refine wpList_plain rfl (fun Ko hKo => ?_)
 go_simp
 refine hKo _ _ ?_
 clear hKo Ko
 try simp only [Act.put, nm1, nm2, nm3, i64_w]
 refine wpList_plain rfl (fun Ko hKo => ?_)
 go_simp
 refine hKo _ _ ?_
 clear hKo Ko
 try simp only [Act.put, nm1, nm2, nm3, i64_w]
 refine wpList_nil ?_
 (try simp only [Exit.then, Exit.inBlock, ↓reduceIte, Nat.reduceEqDiff])
 refine hK8 _ _ ?_
 refine wp_block ?_
 have HL15 := Aside0.mk H
 clear H
 go_loopg [5, 6, 7] K (fun kq v5 v6 v7 w' => ∃ (x9 : Int) (x10 : Int) (x11 : Int), v5 = .int .i64 x9 ∧ v6 = .int .i64 x10 ∧ v7 = .int .i64 x11 ∧ Aside0 (spec_l01Inverse.l0 K a1 kq x9 x10 x11 = some (r0)) ∧ Aside0 (kq ≤ K) ∧ Aside0 (Up w5 w') ∧ Aside0 (w5.heap.size ≤ w'.heap.size))
 case atStart => exact ⟨1, t3, wrap64 (a1 - 2), (by first | rfl | simp), (by first | rfl | simp), (by first | rfl | simp), HL15, ⟨Nat.le_refl _⟩, ⟨(Up.refl _)⟩, ⟨Nat.le_refl _⟩⟩
 case round =>
  rename_i J19 K20 hJ19 hK20
  obtain ⟨x9, x10, x11, rfl, rfl, rfl, HL18, hk17, hu13, hz14⟩ := hrel
  obtain ⟨w12, rfl⟩ : ∃ wo : World, wo = wr := ⟨_, rfl⟩
  obtain ⟨k16, rfl⟩ | rfl : (∃ k, gk = k + 1) ∨ gk = 0 := by rcases gk with _ | k; exact .inr rfl; exact .inl ⟨k, rfl⟩
  case inr => exact absurd HL18.out (by simp [spec_l01Inverse.l0])
  have H := HL18.out
  clear HL18
  rw [spec_l01Inverse.l0] at H
  by_cases c23 : (decide (0 < x11)) = true
  ·
   rw [if_pos c23] at H
   by_cases c27 : ((Int.tmod x11 2) == 1) = true
   ·
    rw [if_pos c27] at H
    have c27n : ((Int.tmod x11 2) != 1) = false := by rw [bne, c27]; rfl
    by_cases c28 : (a1 == 0) = true
    ·
     rw [if_pos c28] at H
     have c28n : (a1 != 0) = false := by rw [bne, c28]; rfl
     exact absurd H (by simp)
    ·
     rw [if_neg c28] at H
     replace c28 := Bool.eq_false_iff.mpr c28
     have c28n : (a1 != 0) = true := by rw [bne, c28]; rfl
     have c28p : ¬ a1 = 0 := fun e => by simp [e] at c28
     have HL29 := Aside0.mk H
     clear H
     refine wp_seq_k (fun K21 hK21 => ?_)
     refine wp_seq_k (fun K22 hK22 => ?_)
     refine wp_region_lit ?_
     refine wpList_plain rfl (fun Ko hKo => ?_)
     go_simp
     refine hKo _ _ ?_
     clear hKo Ko
     try simp only [Act.put, nm1, nm2, nm3, i64_w]
     refine wpList_plain rfl (fun Ko hKo => ?_)
     go_simp
     refine hKo _ _ ?_
     clear hKo Ko
     try simp only [Act.put, nm1, nm2, nm3, i64_w]
     refine wpList_nil ?_
     (try simp only [Exit.then, Exit.inBlock, ↓reduceIte, Nat.reduceEqDiff])
     refine hK22 _ _ ?_
     refine wp_cond_true rfl ?_
     refine wp_skip ?_
     (try simp only [Exit.then, Exit.inBlock, ↓reduceIte, Nat.reduceEqDiff])
     refine hK21 _ _ ?_
     refine wp_seq_k (fun K24 hK24 => ?_)
     refine wp_block ?_
     refine wp_seq_k (fun K25 hK25 => ?_)
     refine wp_seq_k (fun K26 hK26 => ?_)
     refine wp_region_lit ?_
     refine wpList_plain rfl (fun Ko hKo => ?_)
     go_simp
     refine hKo _ _ ?_
     clear hKo Ko
     try simp only [Act.put, nm1, nm2, nm3, i64_w]
     refine wpList_plain rfl (fun Ko hKo => ?_)
     go_simp
     refine hKo _ _ ?_
     clear hKo Ko
     try simp only [Act.put, nm1, nm2, nm3, i64_w]
     refine wpList_plain rfl (fun Ko hKo => ?_)
     go_simp
     refine hKo _ _ ?_
     clear hKo Ko
     try simp only [Act.put, nm1, nm2, nm3, i64_w]
     refine wpList_nil ?_
     (try simp only [Exit.then, Exit.inBlock, ↓reduceIte, Nat.reduceEqDiff])
     refine hK26 _ _ ?_
     refine wp_cond_true rfl ?_
     refine wp_region_lit ?_
     refine wpList_plain rfl (fun Ko hKo => ?_)
     go_simp
     refine hKo _ _ ?_
     clear hKo Ko
     try simp only [Act.put, nm1, nm2, nm3, i64_w]
     refine wpList_plain rfl (fun Ko hKo => ?_)
     go_simp
     refine hKo _ _ ?_
     clear hKo Ko
     try simp only [Act.put, nm1, nm2, nm3, i64_w]
     refine wpList_plain rfl (fun Ko hKo => ?_)
     go_simp
     refine hKo _ _ ?_
     clear hKo Ko
     try simp only [Act.put, nm1, nm2, nm3, i64_w]
     refine wpList_plain rfl (fun Ko hKo => ?_)
     go_simp
     refine hKo _ _ ?_
     clear hKo Ko
     try simp only [Act.put, nm1, nm2, nm3, i64_w]
     refine wpList_plain rfl (fun Ko hKo => ?_)
     go_simp
     refine hKo _ _ ?_
     clear hKo Ko
     try simp only [Act.put, nm1, nm2, nm3, i64_w]
     refine wpList_plain rfl (fun Ko hKo => ?_)
     go_simp
     refine hKo _ _ ?_
     clear hKo Ko
     try simp only [Act.put, nm1, nm2, nm3, i64_w]
     refine wpList_nil ?_
     (try simp only [Exit.then, Exit.inBlock, ↓reduceIte, Nat.reduceEqDiff])
     refine hK25 _ _ ?_
     refine wp_region_lit ?_
     refine wpList_plain rfl (fun Ko hKo => ?_)
     go_simp
     refine hKo _ _ ?_
     clear hKo Ko
     try simp only [Act.put, nm1, nm2, nm3, i64_w]
     refine wpList_plain rfl (fun Ko hKo => ?_)
     go_simp
     refine hKo _ _ ?_
     clear hKo Ko
     try simp only [Act.put, nm1, nm2, nm3, i64_w]
     refine wpList_plain rfl (fun Ko hKo => ?_)
     go_simp
     refine hKo _ _ ?_
     clear hKo Ko
     try simp only [Act.put, nm1, nm2, nm3, i64_w]
     refine wpList_plain rfl (fun Ko hKo => ?_)
     go_simp
     refine hKo _ _ ?_
     clear hKo Ko
     try simp only [Act.put, nm1, nm2, nm3, i64_w]
     refine wpList_plain rfl (fun Ko hKo => ?_)
     go_simp
     refine hKo _ _ ?_
     clear hKo Ko
     try simp only [Act.put, nm1, nm2, nm3, i64_w]
     refine wpList_plain rfl (fun Ko hKo => ?_)
     go_simp
     refine hKo _ _ ?_
     clear hKo Ko
     try simp only [Act.put, nm1, nm2, nm3, i64_w]
     refine wpList_nil ?_
     (try simp only [Exit.then, Exit.inBlock, ↓reduceIte, Nat.reduceEqDiff])
     refine hK24 _ _ ?_
     refine wp_region_lit ?_
     refine wpList_plain rfl (fun Ko hKo => ?_)
     go_simp
     refine hKo _ _ ?_
     clear hKo Ko
     try simp only [Act.put, nm1, nm2, nm3, i64_w]
     refine wpList_plain rfl (fun Ko hKo => ?_)
     go_simp
     refine hKo _ _ ?_
     clear hKo Ko
     try simp only [Act.put, nm1, nm2, nm3, i64_w]
     refine wpList_plain rfl (fun Ko hKo => ?_)
     go_simp
     refine hKo _ _ ?_
     clear hKo Ko
     try simp only [Act.put, nm1, nm2, nm3, i64_w]
     refine wpList_nil ?_
     (try simp only [Exit.then, Exit.inBlock, ↓reduceIte, Nat.reduceEqDiff])
     refine hK20 _ _ ?_
     go_roundg k16
     case measure => exact Nat.lt_succ_self _
     case rel => exact ⟨Int.tmod (wrap64 (x9 * x10)) a1, Int.tmod (wrap64 (x10 * x10)) a1, wrap64 (Int.tdiv x11 2), (by first | rfl | simp), (by first | rfl | simp), (by first | rfl | simp), HL29, ⟨by have := hk17.out; omega⟩, ⟨hu13.out⟩, ⟨(Nat.le_trans (Nat.le_refl _) hz14.out)⟩⟩
   ·
    rw [if_neg c27] at H
    replace c27 := Bool.eq_false_iff.mpr c27
    have c27n : ((Int.tmod x11 2) != 1) = true := by rw [bne, c27]; rfl
    have c27p : ¬ (Int.tmod x11 2) = 1 := fun e => by simp [e] at c27
    by_cases c30 : (a1 == 0) = true
    ·
     rw [if_pos c30] at H
     have c30n : (a1 != 0) = false := by rw [bne, c30]; rfl
     exact absurd H (by simp)
    ·
     rw [if_neg c30] at H
     replace c30 := Bool.eq_false_iff.mpr c30
     have c30n : (a1 != 0) = true := by rw [bne, c30]; rfl
     have c30p : ¬ a1 = 0 := fun e => by simp [e] at c30
     have HL31 := Aside0.mk H
     clear H
     refine wp_seq_k (fun K21 hK21 => ?_)
     refine wp_seq_k (fun K22 hK22 => ?_)
     refine wp_region_lit ?_
     refine wpList_plain rfl (fun Ko hKo => ?_)
     go_simp
     refine hKo _ _ ?_
     clear hKo Ko
     try simp only [Act.put, nm1, nm2, nm3, i64_w]
     refine wpList_plain rfl (fun Ko hKo => ?_)
     go_simp
     refine hKo _ _ ?_
     clear hKo Ko
     try simp only [Act.put, nm1, nm2, nm3, i64_w]
     refine wpList_nil ?_
     (try simp only [Exit.then, Exit.inBlock, ↓reduceIte, Nat.reduceEqDiff])
     refine hK22 _ _ ?_
     refine wp_cond_true rfl ?_
     refine wp_skip ?_
     (try simp only [Exit.then, Exit.inBlock, ↓reduceIte, Nat.reduceEqDiff])
     refine hK21 _ _ ?_
     refine wp_seq_k (fun K24 hK24 => ?_)
     refine wp_block ?_
     refine wp_seq_k (fun K25 hK25 => ?_)
     refine wp_seq_k (fun K26 hK26 => ?_)
     refine wp_region_lit ?_
     refine wpList_plain rfl (fun Ko hKo => ?_)
     go_simp
     refine hKo _ _ ?_
     clear hKo Ko
     try simp only [Act.put, nm1, nm2, nm3, i64_w]
     refine wpList_plain rfl (fun Ko hKo => ?_)
     go_simp
     refine hKo _ _ ?_
     clear hKo Ko
     try simp only [Act.put, nm1, nm2, nm3, i64_w]
     refine wpList_plain rfl (fun Ko hKo => ?_)
     go_simp
     refine hKo _ _ ?_
     clear hKo Ko
     try simp only [Act.put, nm1, nm2, nm3, i64_w]
     refine wpList_nil ?_
     (try simp only [Exit.then, Exit.inBlock, ↓reduceIte, Nat.reduceEqDiff])
     refine hK26 _ _ ?_
     refine wp_cond_false rfl ?_
     refine wp_skip ?_
     (try simp only [Exit.then, Exit.inBlock, ↓reduceIte, Nat.reduceEqDiff])
     refine hK25 _ _ ?_
     refine wp_region_lit ?_
     refine wpList_plain rfl (fun Ko hKo => ?_)
     go_simp
     refine hKo _ _ ?_
     clear hKo Ko
     try simp only [Act.put, nm1, nm2, nm3, i64_w]
     refine wpList_plain rfl (fun Ko hKo => ?_)
     go_simp
     refine hKo _ _ ?_
     clear hKo Ko
     try simp only [Act.put, nm1, nm2, nm3, i64_w]
     refine wpList_plain rfl (fun Ko hKo => ?_)
     go_simp
     refine hKo _ _ ?_
     clear hKo Ko
     try simp only [Act.put, nm1, nm2, nm3, i64_w]
     refine wpList_plain rfl (fun Ko hKo => ?_)
     go_simp
     refine hKo _ _ ?_
     clear hKo Ko
     try simp only [Act.put, nm1, nm2, nm3, i64_w]
     refine wpList_plain rfl (fun Ko hKo => ?_)
     go_simp
     refine hKo _ _ ?_
     clear hKo Ko
     try simp only [Act.put, nm1, nm2, nm3, i64_w]
     refine wpList_plain rfl (fun Ko hKo => ?_)
     go_simp
     refine hKo _ _ ?_
     clear hKo Ko
     try simp only [Act.put, nm1, nm2, nm3, i64_w]
     refine wpList_nil ?_
     (try simp only [Exit.then, Exit.inBlock, ↓reduceIte, Nat.reduceEqDiff])
     refine hK24 _ _ ?_
     refine wp_region_lit ?_
     refine wpList_plain rfl (fun Ko hKo => ?_)
     go_simp
     refine hKo _ _ ?_
     clear hKo Ko
     try simp only [Act.put, nm1, nm2, nm3, i64_w]
     refine wpList_plain rfl (fun Ko hKo => ?_)
     go_simp
     refine hKo _ _ ?_
     clear hKo Ko
     try simp only [Act.put, nm1, nm2, nm3, i64_w]
     refine wpList_plain rfl (fun Ko hKo => ?_)
     go_simp
     refine hKo _ _ ?_
     clear hKo Ko
     try simp only [Act.put, nm1, nm2, nm3, i64_w]
     refine wpList_nil ?_
     (try simp only [Exit.then, Exit.inBlock, ↓reduceIte, Nat.reduceEqDiff])
     refine hK20 _ _ ?_
     go_roundg k16
     case measure => exact Nat.lt_succ_self _
     case rel => exact ⟨x9, Int.tmod (wrap64 (x10 * x10)) a1, wrap64 (Int.tdiv x11 2), (by first | rfl | simp), (by first | rfl | simp), (by first | rfl | simp), HL31, ⟨by have := hk17.out; omega⟩, ⟨hu13.out⟩, ⟨(Nat.le_trans (Nat.le_refl _) hz14.out)⟩⟩
  ·
   rw [if_neg c23] at H
   replace c23 := Bool.eq_false_iff.mpr c23
   obtain rfl := Option.some.inj H
   refine wp_seq_k (fun K21 hK21 => ?_)
   refine wp_seq_k (fun K22 hK22 => ?_)
   refine wp_region_lit ?_
   refine wpList_plain rfl (fun Ko hKo => ?_)
   go_simp
   refine hKo _ _ ?_
   clear hKo Ko
   try simp only [Act.put, nm1, nm2, nm3, i64_w]
   refine wpList_plain rfl (fun Ko hKo => ?_)
   go_simp
   refine hKo _ _ ?_
   clear hKo Ko
   try simp only [Act.put, nm1, nm2, nm3, i64_w]
   refine wpList_nil ?_
   (try simp only [Exit.then, Exit.inBlock, ↓reduceIte, Nat.reduceEqDiff])
   refine hK22 _ _ ?_
   refine wp_cond_false rfl ?_
   refine wp_exit ?_
   (try simp only [Exit.then, Exit.inBlock, ↓reduceIte, Nat.reduceEqDiff])
   refine hK7 _ _ ?_
   refine wp_seq_k (fun K32 hK32 => ?_)
   refine wp_region_lit ?_
   refine wpList_plain rfl (fun Ko hKo => ?_)
   go_simp
   refine hKo _ _ ?_
   clear hKo Ko
   try simp only [Act.put, nm1, nm2, nm3, i64_w]
   refine wpList_plain rfl (fun Ko hKo => ?_)
   go_simp
   refine hKo _ _ ?_
   clear hKo Ko
   try simp only [Act.put, nm1, nm2, nm3, i64_w]
   refine wpList_nil ?_
   (try simp only [Exit.then, Exit.inBlock, ↓reduceIte, Nat.reduceEqDiff])
   refine hK32 _ _ ?_
   refine wp_ret ?_
   (try simp only [Exit.then, Exit.inBlock, ↓reduceIte, Nat.reduceEqDiff])
   refine hQf _ _ _ ?_
   exact bodyPost_ret (v := .int .i64 x9) (by first | rfl | (simp [results, Try.results120, go_sem]; done) | (simp [results, Try.results120, go_sem]; rfl)) rfl ⟨rfl, (hu6.out.trans hu13.out)⟩

set_option maxHeartbeats 4000000 in
set_option maxRecDepth 100000 in
theorem spec_l01Times.calls (K : Nat) (a0 : Int) (a1 : Int) (a2_0 : Int) (a2_1 : Int) (r0 : Int) (r1 : Int) (w : World)  (h : spec_l01Times.f K a0 a1 a2_0 a2_1 = some (r0, r1)) :
    Calls Try.prog 136 #[.int .i64 a0, .int .i64 a1, .agg #[.int .i64 a2_0, .int .i64 a2_1]] w fun e w' => e = .returned (.agg #[.int .i64 r0, .int .i64 r1]) ∧ Up w w' := by
 have H : (((spec_l01Mod.f K (wrap64 (a1 * a2_0)) a0).bind fun t9 => ((spec_l01Mod.f K (wrap64 (a1 * a2_1)) a0).bind fun t11 => some (t9, t11))) : Option (Int × Int)) = some (r0, r1) := h
 clear h
 replace H := Option.bind_eq_some_iff.mp H
 obtain ⟨t9, A10, H⟩ := H
 replace A10 := Aside0.mk A10
 try dsimp only at H
 replace H := Option.bind_eq_some_iff.mp H
 obtain ⟨t11, A12, H⟩ := H
 replace A12 := Aside0.mk A12
 try dsimp only at H
 simp only [Option.some.injEq, Prod.mk.injEq] at H
 obtain ⟨rfl, rfl⟩ := H
 go_enter Try.func136, Try.ntmps136
 refine wp_hide (fun Qf hQf => ?_)
 refine wp_seq_k (fun K1 hK1 => ?_)
 refine wp_region_lit ?_
 refine step_new (cs := [.int .i64 a2_0, .int .i64 a2_1]) (T := 26) (f := fun b => .pointer (some ⟨b, 0, none⟩)) rfl (by first | (go_simp; done) | (go_simp; rfl)) ?_
 intro b2 w3 hu lb hb2
 simp only [Act.put, nm1, nm2, nm3, i64_w]
 have lbb2 := Aside0.mk lb
 have ltb2 := Aside0.mk hb2.lt
 clear lb
 have hu4 := Aside0.mk hu
 clear hu
 refine step_new (cs := [.int .i64 0, .int .i64 0]) (T := 26) (f := fun b => .pointer (some ⟨b, 0, none⟩)) rfl (by first | (go_simp; done) | (go_simp; rfl)) ?_
 intro b5 w6 hu lb hb5
 simp only [Act.put, nm1, nm2, nm3, i64_w]
 have lbb5 := Aside0.mk lb
 have ltb5 := Aside0.mk hb5.lt
 clear lb
 have hu7 := Aside0.mk hu
 clear hu
 refine wpList_nil ?_
 (try simp only [Exit.then, Exit.inBlock, ↓reduceIte, Nat.reduceEqDiff])
 refine hK1 _ _ ?_
 refine wp_seq_k (fun K8 hK8 => ?_)
 refine' wp_region_up 13 [Slot.det _, Slot.det _, Slot.det _, Slot.det _, Slot.det _, Slot.det (.int .i64 t9), Slot.det _, Slot.det _, Slot.det _, Slot.det _, Slot.det _, Slot.det (.int .i64 t11), Slot.det _] (by kernel_rfl) (by kernel_rfl) ?main
 case main =>
  simp only [List.take_succ_cons, List.take_zero]
  refine wpK_ops rfl (fun w1 hu => ?_) ?_
  · clear hu
    go_simp
    first | done | rfl
  simp only [Act.put, nm1, nm2, nm3, i64_w]
  refine wpK_ops rfl (fun w1 hu => ?_) ?_
  · clear hu
    go_simp
    first | done | rfl
  simp only [Act.put, nm1, nm2, nm3, i64_w]
  refine wpK_ops rfl (fun w1 hu => ?_) ?_
  · have cl0 := ((hb2.up hu7.out).up ((Up.refl _).drew.trans hu)).cell (o := 0) rfl
    go_simp
    first | done | rfl
  simp only [Act.put, nm1, nm2, nm3, i64_w]
  refine wpK_ops rfl (fun w1 hu => ?_) ?_
  · clear hu
    go_simp
    first | done | rfl
  simp only [Act.put, nm1, nm2, nm3, i64_w]
  refine wpK_ops rfl (fun w1 hu => ?_) ?_
  · clear hu
    go_simp
    first | done | rfl
  simp only [Act.put, nm1, nm2, nm3, i64_w]
  refine wpK_ops rfl (fun w1 hu => ?_) ?_
  · have hcl := (spec_l01Mod.calls K (wrap64 (a1 * a2_0)) a0 t9 w1  A10.out)
    clear hu
    replace hcl := Aside0.mk hcl
    go_simp
    exact hcl.out
  simp only [Act.put, nm1, nm2, nm3, i64_w]
  refine wpK_ops rfl (fun w1 hu => ?_) ?_
  · clear hu
    go_simp
    first | done | rfl
  simp only [Act.put, nm1, nm2, nm3, i64_w]
  refine wpK_ops rfl (fun w1 hu => ?_) ?_
  · clear hu
    go_simp
    first | done | rfl
  simp only [Act.put, nm1, nm2, nm3, i64_w]
  refine wpK_ops rfl (fun w1 hu => ?_) ?_
  · have cl0 := ((hb2.up hu7.out).up ((Up.refl _).drew.trans hu)).cell (o := 1) rfl
    go_simp
    first | done | rfl
  simp only [Act.put, nm1, nm2, nm3, i64_w]
  refine wpK_ops rfl (fun w1 hu => ?_) ?_
  · clear hu
    go_simp
    first | done | rfl
  simp only [Act.put, nm1, nm2, nm3, i64_w]
  refine wpK_ops rfl (fun w1 hu => ?_) ?_
  · clear hu
    go_simp
    first | done | rfl
  simp only [Act.put, nm1, nm2, nm3, i64_w]
  refine wpK_ops rfl (fun w1 hu => ?_) ?_
  · have hcl := (spec_l01Mod.calls K (wrap64 (a1 * a2_1)) a0 t11 w1  A12.out)
    clear hu
    replace hcl := Aside0.mk hcl
    go_simp
    exact hcl.out
  simp only [Act.put, nm1, nm2, nm3, i64_w]
  refine wpK_ops rfl (fun w1 hu => ?_) ?_
  · clear hu
    go_simp
    first | done | rfl
  simp only [Act.put, nm1, nm2, nm3, i64_w]
  refine wpK_nil ?_
  intro w13 hu hap
  simp only [List.drop_succ_cons, List.drop_zero]
  replace hu := (Up.refl _).drew.trans hu
  clear hap
  have hu14 := Aside0.mk hu
  clear hu
  have hB0 := (hb5.up hu14.out)
  have cl0 := hB0.cell (o := 0) rfl
  have fr0 := hB0.free 0
  have cl1 := hB0.cell (o := 1) rfl
  have fr1 := hB0.free 1
  refine step_store (b := b5) (cs' := [.int .i64 t9, .int .i64 t11]) (T := 26) (W' := ((w13.setCell ⟨b5, 0, none⟩ (.int .i64 t9)).setCell ⟨b5, 1, none⟩ (.int .i64 t11))) rfl rfl (by first | (go_simp; done) | (go_simp; rfl)) (((Sto.refl _ _).setCell 0 _).setCell 1 _) (((hB0).setCell 0 _).setCell 1 _) ?_
  clear hB0 cl0 fr0 cl1 fr1
  intro w15 hs hb17
  have hs16 := Aside0.mk hs
  clear hs
  refine wpList_nil ?_
  (try simp only [Exit.then, Exit.inBlock, ↓reduceIte, Nat.reduceEqDiff])
  refine hK8 _ _ ?_
  refine wp_ret ?_
  (try simp only [Exit.then, Exit.inBlock, ↓reduceIte, Nat.reduceEqDiff])
  refine hQf _ _ _ ?_
  have cr0 := hb17.cell (o := 0) rfl
  have cr1 := hb17.cell (o := 1) rfl
  exact bodyPost_ret (v := .agg #[.int .i64 t9, .int .i64 t11]) (by first | rfl | (simp [results, Try.results136, go_sem, cr0, cr1]; done) | (simp [results, Try.results136, go_sem, cr0, cr1]; rfl)) rfl ⟨rfl, (((hu4.out.trans hu7.out).trans hu14.out).sto (Nat.le_trans (hu4.out.size) lbb5.out) hs16.out)⟩

set_option maxHeartbeats 4000000 in
set_option maxRecDepth 100000 in
theorem spec_l01Minus.calls (K : Nat) (a0 : Int) (a1_0 : Int) (a1_1 : Int) (a2_0 : Int) (a2_1 : Int) (r0 : Int) (r1 : Int) (w : World)  (h : spec_l01Minus.f K a0 a1_0 a1_1 a2_0 a2_1 = some (r0, r1)) :
    Calls Try.prog 101 #[.int .i64 a0, .agg #[.int .i64 a1_0, .int .i64 a1_1], .agg #[.int .i64 a2_0, .int .i64 a2_1]] w fun e w' => e = .returned (.agg #[.int .i64 r0, .int .i64 r1]) ∧ Up w w' := by
 have H : (((spec_l01Mod.f K (wrap64 (a1_0 - a2_0)) a0).bind fun t12 => ((spec_l01Mod.f K (wrap64 (a1_1 - a2_1)) a0).bind fun t14 => some (t12, t14))) : Option (Int × Int)) = some (r0, r1) := h
 clear h
 replace H := Option.bind_eq_some_iff.mp H
 obtain ⟨t12, A13, H⟩ := H
 replace A13 := Aside0.mk A13
 try dsimp only at H
 replace H := Option.bind_eq_some_iff.mp H
 obtain ⟨t14, A15, H⟩ := H
 replace A15 := Aside0.mk A15
 try dsimp only at H
 simp only [Option.some.injEq, Prod.mk.injEq] at H
 obtain ⟨rfl, rfl⟩ := H
 go_enter Try.func101, Try.ntmps101
 refine wp_hide (fun Qf hQf => ?_)
 refine wp_seq_k (fun K1 hK1 => ?_)
 refine wp_region_lit ?_
 refine step_new (cs := [.int .i64 a1_0, .int .i64 a1_1]) (T := 26) (f := fun b => .pointer (some ⟨b, 0, none⟩)) rfl (by first | (go_simp; done) | (go_simp; rfl)) ?_
 intro b2 w3 hu lb hb2
 simp only [Act.put, nm1, nm2, nm3, i64_w]
 have lbb2 := Aside0.mk lb
 have ltb2 := Aside0.mk hb2.lt
 clear lb
 have hu4 := Aside0.mk hu
 clear hu
 refine step_new (cs := [.int .i64 a2_0, .int .i64 a2_1]) (T := 26) (f := fun b => .pointer (some ⟨b, 0, none⟩)) rfl (by first | (go_simp; done) | (go_simp; rfl)) ?_
 intro b5 w6 hu lb hb5
 simp only [Act.put, nm1, nm2, nm3, i64_w]
 have lbb5 := Aside0.mk lb
 have ltb5 := Aside0.mk hb5.lt
 clear lb
 have hu7 := Aside0.mk hu
 clear hu
 refine step_new (cs := [.int .i64 0, .int .i64 0]) (T := 26) (f := fun b => .pointer (some ⟨b, 0, none⟩)) rfl (by first | (go_simp; done) | (go_simp; rfl)) ?_
 intro b8 w9 hu lb hb8
 simp only [Act.put, nm1, nm2, nm3, i64_w]
 have lbb8 := Aside0.mk lb
 have ltb8 := Aside0.mk hb8.lt
 clear lb
 have hu10 := Aside0.mk hu
 clear hu
 refine wpList_nil ?_
 (try simp only [Exit.then, Exit.inBlock, ↓reduceIte, Nat.reduceEqDiff])
 refine hK1 _ _ ?_
 refine wp_seq_k (fun K11 hK11 => ?_)
 refine' wp_region_up 15 [Slot.det _, Slot.det _, Slot.det _, Slot.det _, Slot.det _, Slot.det _, Slot.det (.int .i64 t12), Slot.det _, Slot.det _, Slot.det _, Slot.det _, Slot.det _, Slot.det _, Slot.det (.int .i64 t14), Slot.det _] (by kernel_rfl) (by kernel_rfl) ?main
 case main =>
  simp only [List.take_succ_cons, List.take_zero]
  refine wpK_ops rfl (fun w1 hu => ?_) ?_
  · clear hu
    go_simp
    first | done | rfl
  simp only [Act.put, nm1, nm2, nm3, i64_w]
  refine wpK_ops rfl (fun w1 hu => ?_) ?_
  · have cl0 := ((hb2.up (hu7.out.trans hu10.out)).up ((Up.refl _).drew.trans hu)).cell (o := 0) rfl
    go_simp
    first | done | rfl
  simp only [Act.put, nm1, nm2, nm3, i64_w]
  refine wpK_ops rfl (fun w1 hu => ?_) ?_
  · clear hu
    go_simp
    first | done | rfl
  simp only [Act.put, nm1, nm2, nm3, i64_w]
  refine wpK_ops rfl (fun w1 hu => ?_) ?_
  · have cl0 := ((hb5.up hu10.out).up ((Up.refl _).drew.trans hu)).cell (o := 0) rfl
    go_simp
    first | done | rfl
  simp only [Act.put, nm1, nm2, nm3, i64_w]
  refine wpK_ops rfl (fun w1 hu => ?_) ?_
  · clear hu
    go_simp
    first | done | rfl
  simp only [Act.put, nm1, nm2, nm3, i64_w]
  refine wpK_ops rfl (fun w1 hu => ?_) ?_
  · clear hu
    go_simp
    first | done | rfl
  simp only [Act.put, nm1, nm2, nm3, i64_w]
  refine wpK_ops rfl (fun w1 hu => ?_) ?_
  · have hcl := (spec_l01Mod.calls K (wrap64 (a1_0 - a2_0)) a0 t12 w1  A13.out)
    clear hu
    replace hcl := Aside0.mk hcl
    go_simp
    exact hcl.out
  simp only [Act.put, nm1, nm2, nm3, i64_w]
  refine wpK_ops rfl (fun w1 hu => ?_) ?_
  · clear hu
    go_simp
    first | done | rfl
  simp only [Act.put, nm1, nm2, nm3, i64_w]
  refine wpK_ops rfl (fun w1 hu => ?_) ?_
  · have cl0 := ((hb2.up (hu7.out.trans hu10.out)).up ((Up.refl _).drew.trans hu)).cell (o := 1) rfl
    go_simp
    first | done | rfl
  simp only [Act.put, nm1, nm2, nm3, i64_w]
  refine wpK_ops rfl (fun w1 hu => ?_) ?_
  · clear hu
    go_simp
    first | done | rfl
  simp only [Act.put, nm1, nm2, nm3, i64_w]
  refine wpK_ops rfl (fun w1 hu => ?_) ?_
  · have cl0 := ((hb5.up hu10.out).up ((Up.refl _).drew.trans hu)).cell (o := 1) rfl
    go_simp
    first | done | rfl
  simp only [Act.put, nm1, nm2, nm3, i64_w]
  refine wpK_ops rfl (fun w1 hu => ?_) ?_
  · clear hu
    go_simp
    first | done | rfl
  simp only [Act.put, nm1, nm2, nm3, i64_w]
  refine wpK_ops rfl (fun w1 hu => ?_) ?_
  · clear hu
    go_simp
    first | done | rfl
  simp only [Act.put, nm1, nm2, nm3, i64_w]
  refine wpK_ops rfl (fun w1 hu => ?_) ?_
  · have hcl := (spec_l01Mod.calls K (wrap64 (a1_1 - a2_1)) a0 t14 w1  A15.out)
    clear hu
    replace hcl := Aside0.mk hcl
    go_simp
    exact hcl.out
  simp only [Act.put, nm1, nm2, nm3, i64_w]
  refine wpK_ops rfl (fun w1 hu => ?_) ?_
  · clear hu
    go_simp
    first | done | rfl
  simp only [Act.put, nm1, nm2, nm3, i64_w]
  refine wpK_nil ?_
  intro w16 hu hap
  simp only [List.drop_succ_cons, List.drop_zero]
  replace hu := (Up.refl _).drew.trans hu
  clear hap
  have hu17 := Aside0.mk hu
  clear hu
  have hB0 := (hb8.up hu17.out)
  have cl0 := hB0.cell (o := 0) rfl
  have fr0 := hB0.free 0
  have cl1 := hB0.cell (o := 1) rfl
  have fr1 := hB0.free 1
  refine step_store (b := b8) (cs' := [.int .i64 t12, .int .i64 t14]) (T := 26) (W' := ((w16.setCell ⟨b8, 0, none⟩ (.int .i64 t12)).setCell ⟨b8, 1, none⟩ (.int .i64 t14))) rfl rfl (by first | (go_simp; done) | (go_simp; rfl)) (((Sto.refl _ _).setCell 0 _).setCell 1 _) (((hB0).setCell 0 _).setCell 1 _) ?_
  clear hB0 cl0 fr0 cl1 fr1
  intro w18 hs hb20
  have hs19 := Aside0.mk hs
  clear hs
  refine wpList_nil ?_
  (try simp only [Exit.then, Exit.inBlock, ↓reduceIte, Nat.reduceEqDiff])
  refine hK11 _ _ ?_
  refine wp_ret ?_
  (try simp only [Exit.then, Exit.inBlock, ↓reduceIte, Nat.reduceEqDiff])
  refine hQf _ _ _ ?_
  have cr0 := hb20.cell (o := 0) rfl
  have cr1 := hb20.cell (o := 1) rfl
  exact bodyPost_ret (v := .agg #[.int .i64 t12, .int .i64 t14]) (by first | rfl | (simp [results, Try.results101, go_sem, cr0, cr1]; done) | (simp [results, Try.results101, go_sem, cr0, cr1]; rfl)) rfl ⟨rfl, ((((hu4.out.trans hu7.out).trans hu10.out).trans hu17.out).sto (Nat.le_trans ((Nat.le_trans (hu4.out.size) hu7.out.size)) lbb8.out) hs19.out)⟩

set_option maxHeartbeats 4000000 in
set_option maxRecDepth 100000 in
theorem spec_l07Along.calls (K : Nat) (a0 : Int) (a1 : Int) (a2_0 : Int) (a2_1 : Int) (a3 : Int) (a4_0 : Int) (a4_1 : Int) (r0 : Int) (r1 : Int) (w : World)  (h : spec_l07Along.f K a0 a1 a2_0 a2_1 a3 a4_0 a4_1 = some (r0, r1)) :
    Calls Try.prog 125 #[.int .i64 a0, .int .i64 a1, .agg #[.int .i64 a2_0, .int .i64 a2_1], .int .i64 a3, .agg #[.int .i64 a4_0, .int .i64 a4_1]] w fun e w' => e = .returned (.agg #[.int .i64 r0, .int .i64 r1]) ∧ Up w w' := by
 have H : (((spec_l02Product.f K a0 a1 a4_0 a4_1 a2_0 a2_1).bind fun t12 => (if (a0 == 0) = true then none else ((spec_l01Times.f K a0 (Int.tmod (wrap64 (a3 * t12)) a0) a2_0 a2_1).bind fun (t15, t16) => ((spec_l01Minus.f K a0 t15 t16 a4_0 a4_1).bind fun (t18, t19) => some (t18, t19))))) : Option (Int × Int)) = some (r0, r1) := h
 clear h
 replace H := Option.bind_eq_some_iff.mp H
 obtain ⟨t12, A13, H⟩ := H
 replace A13 := Aside0.mk A13
 try dsimp only at H
 by_cases c14 : (a0 == 0) = true
 ·
  rw [if_pos c14] at H
  have c14n : (a0 != 0) = false := by rw [bne, c14]; rfl
  exact absurd H (by simp)
 ·
  rw [if_neg c14] at H
  replace c14 := Bool.eq_false_iff.mpr c14
  have c14n : (a0 != 0) = true := by rw [bne, c14]; rfl
  have c14p : ¬ a0 = 0 := fun e => by simp [e] at c14
  replace H := Option.bind_eq_some_iff.mp H
  obtain ⟨⟨t15, t16⟩, A17, H⟩ := H
  replace A17 := Aside0.mk A17
  try dsimp only at H
  replace H := Option.bind_eq_some_iff.mp H
  obtain ⟨⟨t18, t19⟩, A20, H⟩ := H
  replace A20 := Aside0.mk A20
  try dsimp only at H
  simp only [Option.some.injEq, Prod.mk.injEq] at H
  obtain ⟨rfl, rfl⟩ := H
  go_enter Try.func125, Try.ntmps125
  refine wp_hide (fun Qf hQf => ?_)
  refine wp_seq_k (fun K1 hK1 => ?_)
  refine wp_region_lit ?_
  refine step_new (cs := [.int .i64 a2_0, .int .i64 a2_1]) (T := 26) (f := fun b => .pointer (some ⟨b, 0, none⟩)) rfl (by first | (go_simp; done) | (go_simp; rfl)) ?_
  intro b2 w3 hu lb hb2
  simp only [Act.put, nm1, nm2, nm3, i64_w]
  have lbb2 := Aside0.mk lb
  have ltb2 := Aside0.mk hb2.lt
  clear lb
  have hu4 := Aside0.mk hu
  clear hu
  refine step_new (cs := [.int .i64 a4_0, .int .i64 a4_1]) (T := 26) (f := fun b => .pointer (some ⟨b, 0, none⟩)) rfl (by first | (go_simp; done) | (go_simp; rfl)) ?_
  intro b5 w6 hu lb hb5
  simp only [Act.put, nm1, nm2, nm3, i64_w]
  have lbb5 := Aside0.mk lb
  have ltb5 := Aside0.mk hb5.lt
  clear lb
  have hu7 := Aside0.mk hu
  clear hu
  refine step_new (cs := [.int .i64 0, .int .i64 0]) (T := 26) (f := fun b => .pointer (some ⟨b, 0, none⟩)) rfl (by first | (go_simp; done) | (go_simp; rfl)) ?_
  intro b8 w9 hu lb hb8
  simp only [Act.put, nm1, nm2, nm3, i64_w]
  have lbb8 := Aside0.mk lb
  have ltb8 := Aside0.mk hb8.lt
  clear lb
  have hu10 := Aside0.mk hu
  clear hu
  refine wpList_nil ?_
  (try simp only [Exit.then, Exit.inBlock, ↓reduceIte, Nat.reduceEqDiff])
  refine hK1 _ _ ?_
  refine wp_seq_k (fun K11 hK11 => ?_)
  refine' wp_region_up 15 [Slot.det _, Slot.det _, Slot.det _, Slot.det _, Slot.det _, Slot.det _, Slot.det _, Slot.det (.int .i64 t12), Slot.det _, Slot.det _, Slot.det _, Slot.det _, Slot.det (.agg #[.int .i64 t15, .int .i64 t16]), Slot.det _, Slot.det (.agg #[.int .i64 t18, .int .i64 t19])] (by kernel_rfl) (by kernel_rfl) ?main
  case main =>
   simp only [List.take_succ_cons, List.take_zero]
   refine wpK_ops rfl (fun w1 hu => ?_) ?_
   · clear hu
     go_simp
     first | done | rfl
   simp only [Act.put, nm1, nm2, nm3, i64_w]
   refine wpK_ops rfl (fun w1 hu => ?_) ?_
   · clear hu
     go_simp
     first | done | rfl
   simp only [Act.put, nm1, nm2, nm3, i64_w]
   refine wpK_ops rfl (fun w1 hu => ?_) ?_
   · clear hu
     go_simp
     first | done | rfl
   simp only [Act.put, nm1, nm2, nm3, i64_w]
   refine wpK_ops rfl (fun w1 hu => ?_) ?_
   · clear hu
     go_simp
     first | done | rfl
   simp only [Act.put, nm1, nm2, nm3, i64_w]
   refine wpK_ops rfl (fun w1 hu => ?_) ?_
   · clear hu
     go_simp
     first | done | rfl
   simp only [Act.put, nm1, nm2, nm3, i64_w]
   refine wpK_ops rfl (fun w1 hu => ?_) ?_
   · have cl0 := ((hb5.up hu10.out).up ((Up.refl _).drew.trans hu)).cell (o := 0) rfl
     have cl1 := ((hb5.up hu10.out).up ((Up.refl _).drew.trans hu)).cell (o := 1) rfl
     go_simp
     first | done | rfl
   simp only [Act.put, nm1, nm2, nm3, i64_w]
   refine wpK_ops rfl (fun w1 hu => ?_) ?_
   · have cl0 := ((hb2.up (hu7.out.trans hu10.out)).up ((Up.refl _).drew.trans hu)).cell (o := 0) rfl
     have cl1 := ((hb2.up (hu7.out.trans hu10.out)).up ((Up.refl _).drew.trans hu)).cell (o := 1) rfl
     go_simp
     first | done | rfl
   simp only [Act.put, nm1, nm2, nm3, i64_w]
   refine wpK_ops rfl (fun w1 hu => ?_) ?_
   · have hcl := (spec_l02Product.calls K a0 a1 a4_0 a4_1 a2_0 a2_1 t12 w1  A13.out)
     clear hu
     replace hcl := Aside0.mk hcl
     go_simp
     exact hcl.out
   simp only [Act.put, nm1, nm2, nm3, i64_w]
   refine wpK_ops rfl (fun w1 hu => ?_) ?_
   · clear hu
     go_simp
     first | done | rfl
   simp only [Act.put, nm1, nm2, nm3, i64_w]
   refine wpK_ops rfl (fun w1 hu => ?_) ?_
   · clear hu
     go_simp
     first | done | rfl
   simp only [Act.put, nm1, nm2, nm3, i64_w]
   refine wpK_ops rfl (fun w1 hu => ?_) ?_
   · clear hu
     go_simp
     first | done | rfl
   simp only [Act.put, nm1, nm2, nm3, i64_w]
   refine wpK_ops rfl (fun w1 hu => ?_) ?_
   · have cl0 := ((hb2.up (hu7.out.trans hu10.out)).up ((Up.refl _).drew.trans hu)).cell (o := 0) rfl
     have cl1 := ((hb2.up (hu7.out.trans hu10.out)).up ((Up.refl _).drew.trans hu)).cell (o := 1) rfl
     go_simp
     first | done | rfl
   simp only [Act.put, nm1, nm2, nm3, i64_w]
   refine wpK_ops rfl (fun w1 hu => ?_) ?_
   · have hcl := (spec_l01Times.calls K a0 (Int.tmod (wrap64 (a3 * t12)) a0) a2_0 a2_1 t15 t16 w1  A17.out)
     clear hu
     replace hcl := Aside0.mk hcl
     go_simp
     exact hcl.out
   simp only [Act.put, nm1, nm2, nm3, i64_w]
   refine wpK_ops rfl (fun w1 hu => ?_) ?_
   · have cl0 := ((hb5.up hu10.out).up ((Up.refl _).drew.trans hu)).cell (o := 0) rfl
     have cl1 := ((hb5.up hu10.out).up ((Up.refl _).drew.trans hu)).cell (o := 1) rfl
     go_simp
     first | done | rfl
   simp only [Act.put, nm1, nm2, nm3, i64_w]
   refine wpK_ops rfl (fun w1 hu => ?_) ?_
   · have hcl := (spec_l01Minus.calls K a0 t15 t16 a4_0 a4_1 t18 t19 w1  A20.out)
     clear hu
     replace hcl := Aside0.mk hcl
     go_simp
     exact hcl.out
   simp only [Act.put, nm1, nm2, nm3, i64_w]
   refine wpK_nil ?_
   intro w21 hu hap
   simp only [List.drop_succ_cons, List.drop_zero]
   replace hu := (Up.refl _).drew.trans hu
   clear hap
   have hu22 := Aside0.mk hu
   clear hu
   have hB0 := (hb8.up hu22.out)
   have cl0 := hB0.cell (o := 0) rfl
   have fr0 := hB0.free 0
   have cl1 := hB0.cell (o := 1) rfl
   have fr1 := hB0.free 1
   refine step_store (b := b8) (cs' := [.int .i64 t18, .int .i64 t19]) (T := 26) (W' := ((w21.setCell ⟨b8, 0, none⟩ (.int .i64 t18)).setCell ⟨b8, 1, none⟩ (.int .i64 t19))) rfl rfl (by first | (go_simp; done) | (go_simp; rfl)) (((Sto.refl _ _).setCell 0 _).setCell 1 _) (((hB0).setCell 0 _).setCell 1 _) ?_
   clear hB0 cl0 fr0 cl1 fr1
   intro w23 hs hb25
   have hs24 := Aside0.mk hs
   clear hs
   refine wpList_nil ?_
   (try simp only [Exit.then, Exit.inBlock, ↓reduceIte, Nat.reduceEqDiff])
   refine hK11 _ _ ?_
   refine wp_ret ?_
   (try simp only [Exit.then, Exit.inBlock, ↓reduceIte, Nat.reduceEqDiff])
   refine hQf _ _ _ ?_
   have cr0 := hb25.cell (o := 0) rfl
   have cr1 := hb25.cell (o := 1) rfl
   exact bodyPost_ret (v := .agg #[.int .i64 t18, .int .i64 t19]) (by first | rfl | (simp [results, Try.results125, go_sem, cr0, cr1]; done) | (simp [results, Try.results125, go_sem, cr0, cr1]; rfl)) rfl ⟨rfl, ((((hu4.out.trans hu7.out).trans hu10.out).trans hu22.out).sto (Nat.le_trans ((Nat.le_trans (hu4.out.size) hu7.out.size)) lbb8.out) hs24.out)⟩

set_option maxHeartbeats 4000000 in
set_option maxRecDepth 100000 in
theorem spec_l01Plus.calls (K : Nat) (a0 : Int) (a1_0 : Int) (a1_1 : Int) (a2_0 : Int) (a2_1 : Int) (r0 : Int) (r1 : Int) (w : World)  (h : spec_l01Plus.f K a0 a1_0 a1_1 a2_0 a2_1 = some (r0, r1)) :
    Calls Try.prog 109 #[.int .i64 a0, .agg #[.int .i64 a1_0, .int .i64 a1_1], .agg #[.int .i64 a2_0, .int .i64 a2_1]] w fun e w' => e = .returned (.agg #[.int .i64 r0, .int .i64 r1]) ∧ Up w w' := by
 have H : (((spec_l01Mod.f K (wrap64 (a1_0 + a2_0)) a0).bind fun t12 => ((spec_l01Mod.f K (wrap64 (a1_1 + a2_1)) a0).bind fun t14 => some (t12, t14))) : Option (Int × Int)) = some (r0, r1) := h
 clear h
 replace H := Option.bind_eq_some_iff.mp H
 obtain ⟨t12, A13, H⟩ := H
 replace A13 := Aside0.mk A13
 try dsimp only at H
 replace H := Option.bind_eq_some_iff.mp H
 obtain ⟨t14, A15, H⟩ := H
 replace A15 := Aside0.mk A15
 try dsimp only at H
 simp only [Option.some.injEq, Prod.mk.injEq] at H
 obtain ⟨rfl, rfl⟩ := H
 go_enter Try.func109, Try.ntmps109
 refine wp_hide (fun Qf hQf => ?_)
 refine wp_seq_k (fun K1 hK1 => ?_)
 refine wp_region_lit ?_
 refine step_new (cs := [.int .i64 a1_0, .int .i64 a1_1]) (T := 26) (f := fun b => .pointer (some ⟨b, 0, none⟩)) rfl (by first | (go_simp; done) | (go_simp; rfl)) ?_
 intro b2 w3 hu lb hb2
 simp only [Act.put, nm1, nm2, nm3, i64_w]
 have lbb2 := Aside0.mk lb
 have ltb2 := Aside0.mk hb2.lt
 clear lb
 have hu4 := Aside0.mk hu
 clear hu
 refine step_new (cs := [.int .i64 a2_0, .int .i64 a2_1]) (T := 26) (f := fun b => .pointer (some ⟨b, 0, none⟩)) rfl (by first | (go_simp; done) | (go_simp; rfl)) ?_
 intro b5 w6 hu lb hb5
 simp only [Act.put, nm1, nm2, nm3, i64_w]
 have lbb5 := Aside0.mk lb
 have ltb5 := Aside0.mk hb5.lt
 clear lb
 have hu7 := Aside0.mk hu
 clear hu
 refine step_new (cs := [.int .i64 0, .int .i64 0]) (T := 26) (f := fun b => .pointer (some ⟨b, 0, none⟩)) rfl (by first | (go_simp; done) | (go_simp; rfl)) ?_
 intro b8 w9 hu lb hb8
 simp only [Act.put, nm1, nm2, nm3, i64_w]
 have lbb8 := Aside0.mk lb
 have ltb8 := Aside0.mk hb8.lt
 clear lb
 have hu10 := Aside0.mk hu
 clear hu
 refine wpList_nil ?_
 (try simp only [Exit.then, Exit.inBlock, ↓reduceIte, Nat.reduceEqDiff])
 refine hK1 _ _ ?_
 refine wp_seq_k (fun K11 hK11 => ?_)
 refine' wp_region_up 15 [Slot.det _, Slot.det _, Slot.det _, Slot.det _, Slot.det _, Slot.det _, Slot.det (.int .i64 t12), Slot.det _, Slot.det _, Slot.det _, Slot.det _, Slot.det _, Slot.det _, Slot.det (.int .i64 t14), Slot.det _] (by kernel_rfl) (by kernel_rfl) ?main
 case main =>
  simp only [List.take_succ_cons, List.take_zero]
  refine wpK_ops rfl (fun w1 hu => ?_) ?_
  · clear hu
    go_simp
    first | done | rfl
  simp only [Act.put, nm1, nm2, nm3, i64_w]
  refine wpK_ops rfl (fun w1 hu => ?_) ?_
  · have cl0 := ((hb2.up (hu7.out.trans hu10.out)).up ((Up.refl _).drew.trans hu)).cell (o := 0) rfl
    go_simp
    first | done | rfl
  simp only [Act.put, nm1, nm2, nm3, i64_w]
  refine wpK_ops rfl (fun w1 hu => ?_) ?_
  · clear hu
    go_simp
    first | done | rfl
  simp only [Act.put, nm1, nm2, nm3, i64_w]
  refine wpK_ops rfl (fun w1 hu => ?_) ?_
  · have cl0 := ((hb5.up hu10.out).up ((Up.refl _).drew.trans hu)).cell (o := 0) rfl
    go_simp
    first | done | rfl
  simp only [Act.put, nm1, nm2, nm3, i64_w]
  refine wpK_ops rfl (fun w1 hu => ?_) ?_
  · clear hu
    go_simp
    first | done | rfl
  simp only [Act.put, nm1, nm2, nm3, i64_w]
  refine wpK_ops rfl (fun w1 hu => ?_) ?_
  · clear hu
    go_simp
    first | done | rfl
  simp only [Act.put, nm1, nm2, nm3, i64_w]
  refine wpK_ops rfl (fun w1 hu => ?_) ?_
  · have hcl := (spec_l01Mod.calls K (wrap64 (a1_0 + a2_0)) a0 t12 w1  A13.out)
    clear hu
    replace hcl := Aside0.mk hcl
    go_simp
    exact hcl.out
  simp only [Act.put, nm1, nm2, nm3, i64_w]
  refine wpK_ops rfl (fun w1 hu => ?_) ?_
  · clear hu
    go_simp
    first | done | rfl
  simp only [Act.put, nm1, nm2, nm3, i64_w]
  refine wpK_ops rfl (fun w1 hu => ?_) ?_
  · have cl0 := ((hb2.up (hu7.out.trans hu10.out)).up ((Up.refl _).drew.trans hu)).cell (o := 1) rfl
    go_simp
    first | done | rfl
  simp only [Act.put, nm1, nm2, nm3, i64_w]
  refine wpK_ops rfl (fun w1 hu => ?_) ?_
  · clear hu
    go_simp
    first | done | rfl
  simp only [Act.put, nm1, nm2, nm3, i64_w]
  refine wpK_ops rfl (fun w1 hu => ?_) ?_
  · have cl0 := ((hb5.up hu10.out).up ((Up.refl _).drew.trans hu)).cell (o := 1) rfl
    go_simp
    first | done | rfl
  simp only [Act.put, nm1, nm2, nm3, i64_w]
  refine wpK_ops rfl (fun w1 hu => ?_) ?_
  · clear hu
    go_simp
    first | done | rfl
  simp only [Act.put, nm1, nm2, nm3, i64_w]
  refine wpK_ops rfl (fun w1 hu => ?_) ?_
  · clear hu
    go_simp
    first | done | rfl
  simp only [Act.put, nm1, nm2, nm3, i64_w]
  refine wpK_ops rfl (fun w1 hu => ?_) ?_
  · have hcl := (spec_l01Mod.calls K (wrap64 (a1_1 + a2_1)) a0 t14 w1  A15.out)
    clear hu
    replace hcl := Aside0.mk hcl
    go_simp
    exact hcl.out
  simp only [Act.put, nm1, nm2, nm3, i64_w]
  refine wpK_ops rfl (fun w1 hu => ?_) ?_
  · clear hu
    go_simp
    first | done | rfl
  simp only [Act.put, nm1, nm2, nm3, i64_w]
  refine wpK_nil ?_
  intro w16 hu hap
  simp only [List.drop_succ_cons, List.drop_zero]
  replace hu := (Up.refl _).drew.trans hu
  clear hap
  have hu17 := Aside0.mk hu
  clear hu
  have hB0 := (hb8.up hu17.out)
  have cl0 := hB0.cell (o := 0) rfl
  have fr0 := hB0.free 0
  have cl1 := hB0.cell (o := 1) rfl
  have fr1 := hB0.free 1
  refine step_store (b := b8) (cs' := [.int .i64 t12, .int .i64 t14]) (T := 26) (W' := ((w16.setCell ⟨b8, 0, none⟩ (.int .i64 t12)).setCell ⟨b8, 1, none⟩ (.int .i64 t14))) rfl rfl (by first | (go_simp; done) | (go_simp; rfl)) (((Sto.refl _ _).setCell 0 _).setCell 1 _) (((hB0).setCell 0 _).setCell 1 _) ?_
  clear hB0 cl0 fr0 cl1 fr1
  intro w18 hs hb20
  have hs19 := Aside0.mk hs
  clear hs
  refine wpList_nil ?_
  (try simp only [Exit.then, Exit.inBlock, ↓reduceIte, Nat.reduceEqDiff])
  refine hK11 _ _ ?_
  refine wp_ret ?_
  (try simp only [Exit.then, Exit.inBlock, ↓reduceIte, Nat.reduceEqDiff])
  refine hQf _ _ _ ?_
  have cr0 := hb20.cell (o := 0) rfl
  have cr1 := hb20.cell (o := 1) rfl
  exact bodyPost_ret (v := .agg #[.int .i64 t12, .int .i64 t14]) (by first | rfl | (simp [results, Try.results109, go_sem, cr0, cr1]; done) | (simp [results, Try.results109, go_sem, cr0, cr1]; rfl)) rfl ⟨rfl, ((((hu4.out.trans hu7.out).trans hu10.out).trans hu17.out).sto (Nat.le_trans ((Nat.le_trans (hu4.out.size) hu7.out.size)) lbb8.out) hs19.out)⟩

set_option maxHeartbeats 4000000 in
set_option maxRecDepth 100000 in
theorem spec_l07Two.calls (K : Nat) (a0 : Int) (a1_0 : Int) (a1_1 : Int) (a1_2 : Int) (r0 : Int) (r1 : Int) (r2 : Int) (r3 : Int) (w : World)  (h : spec_l07Two.f K a0 a1_0 a1_1 a1_2 = some (r0, r1, r2, r3)) :
    Calls Try.prog 91 #[.int .i64 a0, .agg #[.int .i64 a1_0, .int .i64 a1_1, .int .i64 a1_2]] w fun e w' => e = .returned (.tuple #[.agg #[.int .i64 r0, .int .i64 r1], .agg #[.int .i64 r2, .int .i64 r3]]) ∧ Up w w' := by
 have H : ((if (a1_0 == 1) = true then ((spec_l01Mod.f K (wrap64 (-a1_2)) a0).bind fun t21 => ((spec_l02Direction.f K a0 a1_0 a1_1 a1_2).bind fun (t29, t30) => ((spec_l01Plus.f K a0 t21 0 t29 t30).bind fun (t32, t33) => some (t21, 0, t32, t33)))) else ((spec_l01Mod.f K (wrap64 (-a1_2)) a0).bind fun t47 => ((spec_l02Direction.f K a0 a1_0 a1_1 a1_2).bind fun (t55, t56) => ((spec_l01Plus.f K a0 0 t47 t55 t56).bind fun (t58, t59) => some (0, t47, t58, t59))))) : Option (Int × Int × Int × Int)) = some (r0, r1, r2, r3) := h
 clear h
 by_cases c20 : (a1_0 == 1) = true
 ·
  rw [if_pos c20] at H
  have c20n : (a1_0 != 1) = false := by rw [bne, c20]; rfl
  replace H := Option.bind_eq_some_iff.mp H
  obtain ⟨t21, A22, H⟩ := H
  replace A22 := Aside0.mk A22
  try dsimp only at H
  replace H := Option.bind_eq_some_iff.mp H
  obtain ⟨⟨t29, t30⟩, A31, H⟩ := H
  replace A31 := Aside0.mk A31
  try dsimp only at H
  replace H := Option.bind_eq_some_iff.mp H
  obtain ⟨⟨t32, t33⟩, A34, H⟩ := H
  replace A34 := Aside0.mk A34
  try dsimp only at H
  simp only [Option.some.injEq, Prod.mk.injEq] at H
  obtain ⟨rfl, rfl, rfl, rfl⟩ := H
  go_enter Try.func91, Try.ntmps91
  refine wp_hide (fun Qf hQf => ?_)
  refine wp_seq_k (fun K1 hK1 => ?_)
  refine wp_region_lit ?_
  refine step_new (cs := [.int .i64 a1_0, .int .i64 a1_1, .int .i64 a1_2]) (T := 54) (f := fun b => .pointer (some ⟨b, 0, none⟩)) rfl (by first | (go_simp; done) | (go_simp; rfl)) ?_
  intro b2 w3 hu lb hb2
  simp only [Act.put, nm1, nm2, nm3, i64_w]
  have lbb2 := Aside0.mk lb
  have ltb2 := Aside0.mk hb2.lt
  clear lb
  have hu4 := Aside0.mk hu
  clear hu
  refine step_new (cs := [.int .i64 0, .int .i64 0]) (T := 26) (f := fun b => .pointer (some ⟨b, 0, none⟩)) rfl (by first | (go_simp; done) | (go_simp; rfl)) ?_
  intro b5 w6 hu lb hb5
  simp only [Act.put, nm1, nm2, nm3, i64_w]
  have lbb5 := Aside0.mk lb
  have ltb5 := Aside0.mk hb5.lt
  clear lb
  have hu7 := Aside0.mk hu
  clear hu
  refine step_new (cs := [.int .i64 0, .int .i64 0]) (T := 26) (f := fun b => .pointer (some ⟨b, 0, none⟩)) rfl (by first | (go_simp; done) | (go_simp; rfl)) ?_
  intro b8 w9 hu lb hb8
  simp only [Act.put, nm1, nm2, nm3, i64_w]
  have lbb8 := Aside0.mk lb
  have ltb8 := Aside0.mk hb8.lt
  clear lb
  have hu10 := Aside0.mk hu
  clear hu
  refine wpList_nil ?_
  (try simp only [Exit.then, Exit.inBlock, ↓reduceIte, Nat.reduceEqDiff])
  refine hK1 _ _ ?_
  refine wp_seq_k (fun K11 hK11 => ?_)
  refine wp_region_lit ?_
  refine wpList_plain rfl (fun Ko hKo => ?_)
  go_simp
  refine hKo _ _ ?_
  clear hKo Ko
  try simp only [Act.put, nm1, nm2, nm3, i64_w]
  refine step_new (cs := [.int .i64 0, .int .i64 0]) (T := 26) (f := fun b => .pointer (some ⟨b, 0, none⟩)) rfl (by first | (go_simp; done) | (go_simp; rfl)) ?_
  intro b12 w13 hu lb hb12
  simp only [Act.put, nm1, nm2, nm3, i64_w]
  have lbb12 := Aside0.mk lb
  have ltb12 := Aside0.mk hb12.lt
  clear lb
  have hu14 := Aside0.mk hu
  clear hu
  have hB0 := hb12
  have cl0 := hB0.cell (o := 0) rfl
  have fr0 := hB0.free 0
  have cl1 := hB0.cell (o := 1) rfl
  have fr1 := hB0.free 1
  refine step_store (b := b12) (cs' := [.int .i64 0, .int .i64 0]) (T := 26) (W' := ((w13.setCell ⟨b12, 0, none⟩ (.int .i64 0)).setCell ⟨b12, 1, none⟩ (.int .i64 0))) rfl rfl (by first | (go_simp; done) | (go_simp; rfl)) (((Sto.refl _ _).setCell 0 _).setCell 1 _) (((hB0).setCell 0 _).setCell 1 _) ?_
  clear hB0 cl0 fr0 cl1 fr1
  intro w15 hs hb17
  have hs16 := Aside0.mk hs
  clear hs
  refine wpList_nil ?_
  (try simp only [Exit.then, Exit.inBlock, ↓reduceIte, Nat.reduceEqDiff])
  refine hK11 _ _ ?_
  refine wp_seq_k (fun K18 hK18 => ?_)
  refine wp_seq_k (fun K19 hK19 => ?_)
  refine wp_region_lit ?_
  refine wpList_plain rfl (fun Ko hKo => ?_)
  go_simp
  refine hKo _ _ ?_
  clear hKo Ko
  try simp only [Act.put, nm1, nm2, nm3, i64_w]
  have cl0 := (hb2.up (((hu7.out.trans hu10.out).trans hu14.out).sto (Nat.le_trans ((Nat.le_trans (hu7.out.size) hu10.out.size)) lbb12.out) hs16.out)).cell (o := 0) rfl
  refine wpList_plain rfl (fun Ko hKo => ?_)
  go_simp
  refine hKo _ _ ?_
  clear hKo Ko
  clear cl0
  try simp only [Act.put, nm1, nm2, nm3, i64_w]
  refine wpList_plain rfl (fun Ko hKo => ?_)
  go_simp
  refine hKo _ _ ?_
  clear hKo Ko
  try simp only [Act.put, nm1, nm2, nm3, i64_w]
  refine wpList_nil ?_
  (try simp only [Exit.then, Exit.inBlock, ↓reduceIte, Nat.reduceEqDiff])
  refine hK19 _ _ ?_
  refine wp_cond_true rfl ?_
  refine wp_region_lit ?_
  refine wpList_plain rfl (fun Ko hKo => ?_)
  go_simp
  refine hKo _ _ ?_
  clear hKo Ko
  try simp only [Act.put, nm1, nm2, nm3, i64_w]
  have cl0 := (hb2.up (((hu7.out.trans hu10.out).trans hu14.out).sto (Nat.le_trans ((Nat.le_trans (hu7.out.size) hu10.out.size)) lbb12.out) hs16.out)).cell (o := 2) rfl
  refine wpList_plain rfl (fun Ko hKo => ?_)
  go_simp
  refine hKo _ _ ?_
  clear hKo Ko
  clear cl0
  try simp only [Act.put, nm1, nm2, nm3, i64_w]
  refine wpList_plain rfl (fun Ko hKo => ?_)
  go_simp
  refine hKo _ _ ?_
  clear hKo Ko
  try simp only [Act.put, nm1, nm2, nm3, i64_w]
  refine wpList_plain rfl (fun Ko hKo => ?_)
  go_simp
  refine hKo _ _ ?_
  clear hKo Ko
  try simp only [Act.put, nm1, nm2, nm3, i64_w]
  refine step_call (wanted_none rfl) (by first | (go_simp; done) | (go_simp; rfl)) (spec_l01Mod.calls K (wrap64 (-a1_2)) a0 t21 w15  A22.out) ?_
  rintro e w23 ⟨rfl, hu⟩
  have hu24 := Aside0.mk hu
  clear hu
  refine ⟨_, rfl, ?_⟩
  simp only [Act.put, nm1, nm2, nm3, i64_w]
  refine wpList_plain rfl (fun Ko hKo => ?_)
  go_simp
  refine hKo _ _ ?_
  clear hKo Ko
  try simp only [Act.put, nm1, nm2, nm3, i64_w]
  have hB0 := (hb17.up hu24.out)
  have cl0 := hB0.cell (o := 0) rfl
  have fr0 := hB0.free 0
  refine step_store (b := b12) (cs' := [.int .i64 t21, .int .i64 0]) (T := 26) (W' := (w23.setCell ⟨b12, 0, none⟩ (.int .i64 t21))) rfl rfl (by first | (go_simp; done) | (go_simp; rfl)) ((Sto.refl _ _).setCell 0 _) ((hB0).setCell 0 _) ?_
  clear hB0 cl0 fr0
  intro w25 hs hb27
  have hs26 := Aside0.mk hs
  clear hs
  refine wpList_nil ?_
  (try simp only [Exit.then, Exit.inBlock, ↓reduceIte, Nat.reduceEqDiff])
  refine hK18 _ _ ?_
  refine wp_seq_k (fun K28 hK28 => ?_)
  refine' wp_region_up 7 [Slot.det _, Slot.det _, Slot.det _, Slot.det _, Slot.det _, Slot.det (.agg #[.int .i64 t29, .int .i64 t30]), Slot.det (.agg #[.int .i64 t32, .int .i64 t33])] (by kernel_rfl) (by kernel_rfl) ?main
  case main =>
   simp only [List.take_succ_cons, List.take_zero]
   refine wpK_ops rfl (fun w1 hu => ?_) ?_
   · have cl0 := (hb27.up ((Up.refl _).drew.trans hu)).cell (o := 0) rfl
     have cl1 := (hb27.up ((Up.refl _).drew.trans hu)).cell (o := 1) rfl
     go_simp
     first | done | rfl
   simp only [Act.put, nm1, nm2, nm3, i64_w]
   refine wpK_ops rfl (fun w1 hu => ?_) ?_
   · clear hu
     go_simp
     first | done | rfl
   simp only [Act.put, nm1, nm2, nm3, i64_w]
   refine wpK_ops rfl (fun w1 hu => ?_) ?_
   · have cl0 := (hb27.up ((Up.refl _).drew.trans hu)).cell (o := 0) rfl
     have cl1 := (hb27.up ((Up.refl _).drew.trans hu)).cell (o := 1) rfl
     go_simp
     first | done | rfl
   simp only [Act.put, nm1, nm2, nm3, i64_w]
   refine wpK_ops rfl (fun w1 hu => ?_) ?_
   · clear hu
     go_simp
     first | done | rfl
   simp only [Act.put, nm1, nm2, nm3, i64_w]
   refine wpK_ops rfl (fun w1 hu => ?_) ?_
   · have cl0 := ((hb2.up (((((hu7.out.trans hu10.out).trans hu14.out).sto (Nat.le_trans ((Nat.le_trans (hu7.out.size) hu10.out.size)) lbb12.out) hs16.out).trans hu24.out).sto (Nat.le_trans ((Nat.le_trans (hu7.out.size) hu10.out.size)) lbb12.out) hs26.out)).up ((Up.refl _).drew.trans hu)).cell (o := 0) rfl
     have cl1 := ((hb2.up (((((hu7.out.trans hu10.out).trans hu14.out).sto (Nat.le_trans ((Nat.le_trans (hu7.out.size) hu10.out.size)) lbb12.out) hs16.out).trans hu24.out).sto (Nat.le_trans ((Nat.le_trans (hu7.out.size) hu10.out.size)) lbb12.out) hs26.out)).up ((Up.refl _).drew.trans hu)).cell (o := 1) rfl
     have cl2 := ((hb2.up (((((hu7.out.trans hu10.out).trans hu14.out).sto (Nat.le_trans ((Nat.le_trans (hu7.out.size) hu10.out.size)) lbb12.out) hs16.out).trans hu24.out).sto (Nat.le_trans ((Nat.le_trans (hu7.out.size) hu10.out.size)) lbb12.out) hs26.out)).up ((Up.refl _).drew.trans hu)).cell (o := 2) rfl
     go_simp
     first | done | rfl
   simp only [Act.put, nm1, nm2, nm3, i64_w]
   refine wpK_ops rfl (fun w1 hu => ?_) ?_
   · have hcl := (spec_l02Direction.calls K a0 a1_0 a1_1 a1_2 t29 t30 w1  A31.out)
     clear hu
     replace hcl := Aside0.mk hcl
     go_simp
     exact hcl.out
   simp only [Act.put, nm1, nm2, nm3, i64_w]
   refine wpK_ops rfl (fun w1 hu => ?_) ?_
   · have hcl := (spec_l01Plus.calls K a0 t21 0 t29 t30 t32 t33 w1  A34.out)
     clear hu
     replace hcl := Aside0.mk hcl
     go_simp
     exact hcl.out
   simp only [Act.put, nm1, nm2, nm3, i64_w]
   refine wpK_nil ?_
   intro w35 hu hap
   simp only [List.drop_succ_cons, List.drop_zero]
   replace hu := (Up.refl _).drew.trans hu
   clear hap
   have hu36 := Aside0.mk hu
   clear hu
   have hB0 := (hb5.up (((((hu10.out.trans hu14.out).sto (Nat.le_trans (hu10.out.size) lbb12.out) hs16.out).trans hu24.out).sto (Nat.le_trans (hu10.out.size) lbb12.out) hs26.out).trans hu36.out))
   have cl0 := hB0.cell (o := 0) rfl
   have fr0 := hB0.free 0
   have cl1 := hB0.cell (o := 1) rfl
   have fr1 := hB0.free 1
   refine step_store (b := b5) (cs' := [.int .i64 t21, .int .i64 0]) (T := 26) (W' := ((w35.setCell ⟨b5, 0, none⟩ (.int .i64 t21)).setCell ⟨b5, 1, none⟩ (.int .i64 0))) rfl rfl (by first | (go_simp; done) | (go_simp; rfl)) (((Sto.refl _ _).setCell 0 _).setCell 1 _) (((hB0).setCell 0 _).setCell 1 _) ?_
   clear hB0 cl0 fr0 cl1 fr1
   intro w37 hs hb39
   have hs38 := Aside0.mk hs
   clear hs
   have h40 := (hb8.up ((((hu14.out.sto (Nat.le_trans (Nat.le_refl _) lbb12.out) hs16.out).trans hu24.out).sto (Nat.le_trans (Nat.le_refl _) lbb12.out) hs26.out).trans hu36.out)).sto hs38.out (Ne.symm (Nat.ne_of_lt (Nat.lt_of_lt_of_le ltb5.out lbb8.out)))
   have h41 := (hb27.up hu36.out).sto hs38.out (Ne.symm (Nat.ne_of_lt (Nat.lt_of_lt_of_le (Nat.lt_of_lt_of_le ltb5.out (hu10.out.size)) lbb12.out)))
   have hB0 := h40
   have cl0 := hB0.cell (o := 0) rfl
   have fr0 := hB0.free 0
   have cl1 := hB0.cell (o := 1) rfl
   have fr1 := hB0.free 1
   refine step_store (b := b8) (cs' := [.int .i64 t32, .int .i64 t33]) (T := 26) (W' := ((w37.setCell ⟨b8, 0, none⟩ (.int .i64 t32)).setCell ⟨b8, 1, none⟩ (.int .i64 t33))) rfl rfl (by first | (go_simp; done) | (go_simp; rfl)) (((Sto.refl _ _).setCell 0 _).setCell 1 _) (((hB0).setCell 0 _).setCell 1 _) ?_
   clear hB0 cl0 fr0 cl1 fr1
   intro w42 hs hb44
   have hs43 := Aside0.mk hs
   clear hs
   have h45 := hb39.sto hs43.out (Nat.ne_of_lt (Nat.lt_of_lt_of_le ltb5.out lbb8.out))
   have h46 := h41.sto hs43.out (Ne.symm (Nat.ne_of_lt (Nat.lt_of_lt_of_le ltb8.out lbb12.out)))
   refine wpList_nil ?_
   (try simp only [Exit.then, Exit.inBlock, ↓reduceIte, Nat.reduceEqDiff])
   refine hK28 _ _ ?_
   refine wp_ret ?_
   (try simp only [Exit.then, Exit.inBlock, ↓reduceIte, Nat.reduceEqDiff])
   refine hQf _ _ _ ?_
   have cr0 := h45.cell (o := 0) rfl
   have cr1 := h45.cell (o := 1) rfl
   have cr2 := hb44.cell (o := 0) rfl
   have cr3 := hb44.cell (o := 1) rfl
   exact bodyPost_ret (v := .tuple #[.agg #[.int .i64 t21, .int .i64 0], .agg #[.int .i64 t32, .int .i64 t33]]) (by first | rfl | (simp [results, Try.results91, go_sem, cr0, cr1, cr2, cr3]; done) | (simp [results, Try.results91, go_sem, cr0, cr1, cr2, cr3]; rfl)) rfl ⟨rfl, (((((((((hu4.out.trans hu7.out).trans hu10.out).trans hu14.out).sto (Nat.le_trans ((Nat.le_trans ((Nat.le_trans (hu4.out.size) hu7.out.size)) hu10.out.size)) lbb12.out) hs16.out).trans hu24.out).sto (Nat.le_trans ((Nat.le_trans ((Nat.le_trans (hu4.out.size) hu7.out.size)) hu10.out.size)) lbb12.out) hs26.out).trans hu36.out).sto (Nat.le_trans (hu4.out.size) lbb5.out) hs38.out).sto (Nat.le_trans ((Nat.le_trans (hu4.out.size) hu7.out.size)) lbb8.out) hs43.out)⟩
 ·
  rw [if_neg c20] at H
  replace c20 := Bool.eq_false_iff.mpr c20
  have c20n : (a1_0 != 1) = true := by rw [bne, c20]; rfl
  have c20p : ¬ a1_0 = 1 := fun e => by simp [e] at c20
  replace H := Option.bind_eq_some_iff.mp H
  obtain ⟨t47, A48, H⟩ := H
  replace A48 := Aside0.mk A48
  try dsimp only at H
  replace H := Option.bind_eq_some_iff.mp H
  obtain ⟨⟨t55, t56⟩, A57, H⟩ := H
  replace A57 := Aside0.mk A57
  try dsimp only at H
  replace H := Option.bind_eq_some_iff.mp H
  obtain ⟨⟨t58, t59⟩, A60, H⟩ := H
  replace A60 := Aside0.mk A60
  try dsimp only at H
  simp only [Option.some.injEq, Prod.mk.injEq] at H
  obtain ⟨rfl, rfl, rfl, rfl⟩ := H
  go_enter Try.func91, Try.ntmps91
  refine wp_hide (fun Qf hQf => ?_)
  refine wp_seq_k (fun K1 hK1 => ?_)
  refine wp_region_lit ?_
  refine step_new (cs := [.int .i64 a1_0, .int .i64 a1_1, .int .i64 a1_2]) (T := 54) (f := fun b => .pointer (some ⟨b, 0, none⟩)) rfl (by first | (go_simp; done) | (go_simp; rfl)) ?_
  intro b2 w3 hu lb hb2
  simp only [Act.put, nm1, nm2, nm3, i64_w]
  have lbb2 := Aside0.mk lb
  have ltb2 := Aside0.mk hb2.lt
  clear lb
  have hu4 := Aside0.mk hu
  clear hu
  refine step_new (cs := [.int .i64 0, .int .i64 0]) (T := 26) (f := fun b => .pointer (some ⟨b, 0, none⟩)) rfl (by first | (go_simp; done) | (go_simp; rfl)) ?_
  intro b5 w6 hu lb hb5
  simp only [Act.put, nm1, nm2, nm3, i64_w]
  have lbb5 := Aside0.mk lb
  have ltb5 := Aside0.mk hb5.lt
  clear lb
  have hu7 := Aside0.mk hu
  clear hu
  refine step_new (cs := [.int .i64 0, .int .i64 0]) (T := 26) (f := fun b => .pointer (some ⟨b, 0, none⟩)) rfl (by first | (go_simp; done) | (go_simp; rfl)) ?_
  intro b8 w9 hu lb hb8
  simp only [Act.put, nm1, nm2, nm3, i64_w]
  have lbb8 := Aside0.mk lb
  have ltb8 := Aside0.mk hb8.lt
  clear lb
  have hu10 := Aside0.mk hu
  clear hu
  refine wpList_nil ?_
  (try simp only [Exit.then, Exit.inBlock, ↓reduceIte, Nat.reduceEqDiff])
  refine hK1 _ _ ?_
  refine wp_seq_k (fun K11 hK11 => ?_)
  refine wp_region_lit ?_
  refine wpList_plain rfl (fun Ko hKo => ?_)
  go_simp
  refine hKo _ _ ?_
  clear hKo Ko
  try simp only [Act.put, nm1, nm2, nm3, i64_w]
  refine step_new (cs := [.int .i64 0, .int .i64 0]) (T := 26) (f := fun b => .pointer (some ⟨b, 0, none⟩)) rfl (by first | (go_simp; done) | (go_simp; rfl)) ?_
  intro b12 w13 hu lb hb12
  simp only [Act.put, nm1, nm2, nm3, i64_w]
  have lbb12 := Aside0.mk lb
  have ltb12 := Aside0.mk hb12.lt
  clear lb
  have hu14 := Aside0.mk hu
  clear hu
  have hB0 := hb12
  have cl0 := hB0.cell (o := 0) rfl
  have fr0 := hB0.free 0
  have cl1 := hB0.cell (o := 1) rfl
  have fr1 := hB0.free 1
  refine step_store (b := b12) (cs' := [.int .i64 0, .int .i64 0]) (T := 26) (W' := ((w13.setCell ⟨b12, 0, none⟩ (.int .i64 0)).setCell ⟨b12, 1, none⟩ (.int .i64 0))) rfl rfl (by first | (go_simp; done) | (go_simp; rfl)) (((Sto.refl _ _).setCell 0 _).setCell 1 _) (((hB0).setCell 0 _).setCell 1 _) ?_
  clear hB0 cl0 fr0 cl1 fr1
  intro w15 hs hb17
  have hs16 := Aside0.mk hs
  clear hs
  refine wpList_nil ?_
  (try simp only [Exit.then, Exit.inBlock, ↓reduceIte, Nat.reduceEqDiff])
  refine hK11 _ _ ?_
  refine wp_seq_k (fun K18 hK18 => ?_)
  refine wp_seq_k (fun K19 hK19 => ?_)
  refine wp_region_lit ?_
  refine wpList_plain rfl (fun Ko hKo => ?_)
  go_simp
  refine hKo _ _ ?_
  clear hKo Ko
  try simp only [Act.put, nm1, nm2, nm3, i64_w]
  have cl0 := (hb2.up (((hu7.out.trans hu10.out).trans hu14.out).sto (Nat.le_trans ((Nat.le_trans (hu7.out.size) hu10.out.size)) lbb12.out) hs16.out)).cell (o := 0) rfl
  refine wpList_plain rfl (fun Ko hKo => ?_)
  go_simp
  refine hKo _ _ ?_
  clear hKo Ko
  clear cl0
  try simp only [Act.put, nm1, nm2, nm3, i64_w]
  refine wpList_plain rfl (fun Ko hKo => ?_)
  go_simp
  refine hKo _ _ ?_
  clear hKo Ko
  try simp only [Act.put, nm1, nm2, nm3, i64_w]
  refine wpList_nil ?_
  (try simp only [Exit.then, Exit.inBlock, ↓reduceIte, Nat.reduceEqDiff])
  refine hK19 _ _ ?_
  refine wp_cond_false rfl ?_
  refine wp_region_lit ?_
  refine wpList_plain rfl (fun Ko hKo => ?_)
  go_simp
  refine hKo _ _ ?_
  clear hKo Ko
  try simp only [Act.put, nm1, nm2, nm3, i64_w]
  have cl0 := (hb2.up (((hu7.out.trans hu10.out).trans hu14.out).sto (Nat.le_trans ((Nat.le_trans (hu7.out.size) hu10.out.size)) lbb12.out) hs16.out)).cell (o := 2) rfl
  refine wpList_plain rfl (fun Ko hKo => ?_)
  go_simp
  refine hKo _ _ ?_
  clear hKo Ko
  clear cl0
  try simp only [Act.put, nm1, nm2, nm3, i64_w]
  refine wpList_plain rfl (fun Ko hKo => ?_)
  go_simp
  refine hKo _ _ ?_
  clear hKo Ko
  try simp only [Act.put, nm1, nm2, nm3, i64_w]
  refine wpList_plain rfl (fun Ko hKo => ?_)
  go_simp
  refine hKo _ _ ?_
  clear hKo Ko
  try simp only [Act.put, nm1, nm2, nm3, i64_w]
  refine step_call (wanted_none rfl) (by first | (go_simp; done) | (go_simp; rfl)) (spec_l01Mod.calls K (wrap64 (-a1_2)) a0 t47 w15  A48.out) ?_
  rintro e w49 ⟨rfl, hu⟩
  have hu50 := Aside0.mk hu
  clear hu
  refine ⟨_, rfl, ?_⟩
  simp only [Act.put, nm1, nm2, nm3, i64_w]
  refine wpList_plain rfl (fun Ko hKo => ?_)
  go_simp
  refine hKo _ _ ?_
  clear hKo Ko
  try simp only [Act.put, nm1, nm2, nm3, i64_w]
  have hB0 := (hb17.up hu50.out)
  have cl0 := hB0.cell (o := 1) rfl
  have fr0 := hB0.free 1
  refine step_store (b := b12) (cs' := [.int .i64 0, .int .i64 t47]) (T := 26) (W' := (w49.setCell ⟨b12, 1, none⟩ (.int .i64 t47))) rfl rfl (by first | (go_simp; done) | (go_simp; rfl)) ((Sto.refl _ _).setCell 1 _) ((hB0).setCell 1 _) ?_
  clear hB0 cl0 fr0
  intro w51 hs hb53
  have hs52 := Aside0.mk hs
  clear hs
  refine wpList_nil ?_
  (try simp only [Exit.then, Exit.inBlock, ↓reduceIte, Nat.reduceEqDiff])
  refine hK18 _ _ ?_
  refine wp_seq_k (fun K54 hK54 => ?_)
  refine' wp_region_up 7 [Slot.det _, Slot.det _, Slot.det _, Slot.det _, Slot.det _, Slot.det (.agg #[.int .i64 t55, .int .i64 t56]), Slot.det (.agg #[.int .i64 t58, .int .i64 t59])] (by kernel_rfl) (by kernel_rfl) ?main
  case main =>
   simp only [List.take_succ_cons, List.take_zero]
   refine wpK_ops rfl (fun w1 hu => ?_) ?_
   · have cl0 := (hb53.up ((Up.refl _).drew.trans hu)).cell (o := 0) rfl
     have cl1 := (hb53.up ((Up.refl _).drew.trans hu)).cell (o := 1) rfl
     go_simp
     first | done | rfl
   simp only [Act.put, nm1, nm2, nm3, i64_w]
   refine wpK_ops rfl (fun w1 hu => ?_) ?_
   · clear hu
     go_simp
     first | done | rfl
   simp only [Act.put, nm1, nm2, nm3, i64_w]
   refine wpK_ops rfl (fun w1 hu => ?_) ?_
   · have cl0 := (hb53.up ((Up.refl _).drew.trans hu)).cell (o := 0) rfl
     have cl1 := (hb53.up ((Up.refl _).drew.trans hu)).cell (o := 1) rfl
     go_simp
     first | done | rfl
   simp only [Act.put, nm1, nm2, nm3, i64_w]
   refine wpK_ops rfl (fun w1 hu => ?_) ?_
   · clear hu
     go_simp
     first | done | rfl
   simp only [Act.put, nm1, nm2, nm3, i64_w]
   refine wpK_ops rfl (fun w1 hu => ?_) ?_
   · have cl0 := ((hb2.up (((((hu7.out.trans hu10.out).trans hu14.out).sto (Nat.le_trans ((Nat.le_trans (hu7.out.size) hu10.out.size)) lbb12.out) hs16.out).trans hu50.out).sto (Nat.le_trans ((Nat.le_trans (hu7.out.size) hu10.out.size)) lbb12.out) hs52.out)).up ((Up.refl _).drew.trans hu)).cell (o := 0) rfl
     have cl1 := ((hb2.up (((((hu7.out.trans hu10.out).trans hu14.out).sto (Nat.le_trans ((Nat.le_trans (hu7.out.size) hu10.out.size)) lbb12.out) hs16.out).trans hu50.out).sto (Nat.le_trans ((Nat.le_trans (hu7.out.size) hu10.out.size)) lbb12.out) hs52.out)).up ((Up.refl _).drew.trans hu)).cell (o := 1) rfl
     have cl2 := ((hb2.up (((((hu7.out.trans hu10.out).trans hu14.out).sto (Nat.le_trans ((Nat.le_trans (hu7.out.size) hu10.out.size)) lbb12.out) hs16.out).trans hu50.out).sto (Nat.le_trans ((Nat.le_trans (hu7.out.size) hu10.out.size)) lbb12.out) hs52.out)).up ((Up.refl _).drew.trans hu)).cell (o := 2) rfl
     go_simp
     first | done | rfl
   simp only [Act.put, nm1, nm2, nm3, i64_w]
   refine wpK_ops rfl (fun w1 hu => ?_) ?_
   · have hcl := (spec_l02Direction.calls K a0 a1_0 a1_1 a1_2 t55 t56 w1  A57.out)
     clear hu
     replace hcl := Aside0.mk hcl
     go_simp
     exact hcl.out
   simp only [Act.put, nm1, nm2, nm3, i64_w]
   refine wpK_ops rfl (fun w1 hu => ?_) ?_
   · have hcl := (spec_l01Plus.calls K a0 0 t47 t55 t56 t58 t59 w1  A60.out)
     clear hu
     replace hcl := Aside0.mk hcl
     go_simp
     exact hcl.out
   simp only [Act.put, nm1, nm2, nm3, i64_w]
   refine wpK_nil ?_
   intro w61 hu hap
   simp only [List.drop_succ_cons, List.drop_zero]
   replace hu := (Up.refl _).drew.trans hu
   clear hap
   have hu62 := Aside0.mk hu
   clear hu
   have hB0 := (hb5.up (((((hu10.out.trans hu14.out).sto (Nat.le_trans (hu10.out.size) lbb12.out) hs16.out).trans hu50.out).sto (Nat.le_trans (hu10.out.size) lbb12.out) hs52.out).trans hu62.out))
   have cl0 := hB0.cell (o := 0) rfl
   have fr0 := hB0.free 0
   have cl1 := hB0.cell (o := 1) rfl
   have fr1 := hB0.free 1
   refine step_store (b := b5) (cs' := [.int .i64 0, .int .i64 t47]) (T := 26) (W' := ((w61.setCell ⟨b5, 0, none⟩ (.int .i64 0)).setCell ⟨b5, 1, none⟩ (.int .i64 t47))) rfl rfl (by first | (go_simp; done) | (go_simp; rfl)) (((Sto.refl _ _).setCell 0 _).setCell 1 _) (((hB0).setCell 0 _).setCell 1 _) ?_
   clear hB0 cl0 fr0 cl1 fr1
   intro w63 hs hb65
   have hs64 := Aside0.mk hs
   clear hs
   have h66 := (hb8.up ((((hu14.out.sto (Nat.le_trans (Nat.le_refl _) lbb12.out) hs16.out).trans hu50.out).sto (Nat.le_trans (Nat.le_refl _) lbb12.out) hs52.out).trans hu62.out)).sto hs64.out (Ne.symm (Nat.ne_of_lt (Nat.lt_of_lt_of_le ltb5.out lbb8.out)))
   have h67 := (hb53.up hu62.out).sto hs64.out (Ne.symm (Nat.ne_of_lt (Nat.lt_of_lt_of_le (Nat.lt_of_lt_of_le ltb5.out (hu10.out.size)) lbb12.out)))
   have hB0 := h66
   have cl0 := hB0.cell (o := 0) rfl
   have fr0 := hB0.free 0
   have cl1 := hB0.cell (o := 1) rfl
   have fr1 := hB0.free 1
   refine step_store (b := b8) (cs' := [.int .i64 t58, .int .i64 t59]) (T := 26) (W' := ((w63.setCell ⟨b8, 0, none⟩ (.int .i64 t58)).setCell ⟨b8, 1, none⟩ (.int .i64 t59))) rfl rfl (by first | (go_simp; done) | (go_simp; rfl)) (((Sto.refl _ _).setCell 0 _).setCell 1 _) (((hB0).setCell 0 _).setCell 1 _) ?_
   clear hB0 cl0 fr0 cl1 fr1
   intro w68 hs hb70
   have hs69 := Aside0.mk hs
   clear hs
   have h71 := hb65.sto hs69.out (Nat.ne_of_lt (Nat.lt_of_lt_of_le ltb5.out lbb8.out))
   have h72 := h67.sto hs69.out (Ne.symm (Nat.ne_of_lt (Nat.lt_of_lt_of_le ltb8.out lbb12.out)))
   refine wpList_nil ?_
   (try simp only [Exit.then, Exit.inBlock, ↓reduceIte, Nat.reduceEqDiff])
   refine hK54 _ _ ?_
   refine wp_ret ?_
   (try simp only [Exit.then, Exit.inBlock, ↓reduceIte, Nat.reduceEqDiff])
   refine hQf _ _ _ ?_
   have cr0 := h71.cell (o := 0) rfl
   have cr1 := h71.cell (o := 1) rfl
   have cr2 := hb70.cell (o := 0) rfl
   have cr3 := hb70.cell (o := 1) rfl
   exact bodyPost_ret (v := .tuple #[.agg #[.int .i64 0, .int .i64 t47], .agg #[.int .i64 t58, .int .i64 t59]]) (by first | rfl | (simp [results, Try.results91, go_sem, cr0, cr1, cr2, cr3]; done) | (simp [results, Try.results91, go_sem, cr0, cr1, cr2, cr3]; rfl)) rfl ⟨rfl, (((((((((hu4.out.trans hu7.out).trans hu10.out).trans hu14.out).sto (Nat.le_trans ((Nat.le_trans ((Nat.le_trans (hu4.out.size) hu7.out.size)) hu10.out.size)) lbb12.out) hs16.out).trans hu50.out).sto (Nat.le_trans ((Nat.le_trans ((Nat.le_trans (hu4.out.size) hu7.out.size)) hu10.out.size)) lbb12.out) hs52.out).trans hu62.out).sto (Nat.le_trans (hu4.out.size) lbb5.out) hs64.out).sto (Nat.le_trans ((Nat.le_trans (hu4.out.size) hu7.out.size)) lbb8.out) hs69.out)⟩

set_option maxHeartbeats 4000000 in
set_option maxRecDepth 100000 in
theorem spec_l07Lead.calls (K : Nat) (a0 : Int) (a1_0 : Int) (a1_1 : Int) (a1_2 : Int) (a1_3 : Int) (a1_4 : Int) (a1_5 : Int) (a2_0 : Int) (a2_1 : Int) (r0 : Int) (r1 : Int) (w : World)  (h : spec_l07Lead.f K a0 a1_0 a1_1 a1_2 a1_3 a1_4 a1_5 a2_0 a2_1 = some (r0, r1)) :
    Calls Try.prog 102 #[.int .i64 a0, .agg #[.int .i64 a1_0, .int .i64 a1_1, .int .i64 a1_2, .int .i64 a1_3, .int .i64 a1_4, .int .i64 a1_5], .agg #[.int .i64 a2_0, .int .i64 a2_1]] w fun e w' => e = .returned (.agg #[.int .i64 r0, .int .i64 r1]) ∧ Up w w' := by
 have H : (((spec_l01Mod.f K (wrap64 ((wrap64 (a1_0 * a2_0)) + (wrap64 (a1_1 * a2_1)))) a0).bind fun t12 => ((spec_l01Mod.f K (wrap64 ((wrap64 (a1_2 * a2_0)) + (wrap64 (a1_3 * a2_1)))) a0).bind fun t14 => some (t12, t14))) : Option (Int × Int)) = some (r0, r1) := h
 clear h
 replace H := Option.bind_eq_some_iff.mp H
 obtain ⟨t12, A13, H⟩ := H
 replace A13 := Aside0.mk A13
 try dsimp only at H
 replace H := Option.bind_eq_some_iff.mp H
 obtain ⟨t14, A15, H⟩ := H
 replace A15 := Aside0.mk A15
 try dsimp only at H
 simp only [Option.some.injEq, Prod.mk.injEq] at H
 obtain ⟨rfl, rfl⟩ := H
 go_enter Try.func102, Try.ntmps102
 refine wp_hide (fun Qf hQf => ?_)
 refine wp_seq_k (fun K1 hK1 => ?_)
 refine wp_region_lit ?_
 refine step_new (cs := [.int .i64 a1_0, .int .i64 a1_1, .int .i64 a1_2, .int .i64 a1_3, .int .i64 a1_4, .int .i64 a1_5]) (T := 30) (f := fun b => .pointer (some ⟨b, 0, none⟩)) rfl (by first | (go_simp; done) | (go_simp; rfl)) ?_
 intro b2 w3 hu lb hb2
 simp only [Act.put, nm1, nm2, nm3, i64_w]
 have lbb2 := Aside0.mk lb
 have ltb2 := Aside0.mk hb2.lt
 clear lb
 have hu4 := Aside0.mk hu
 clear hu
 refine step_new (cs := [.int .i64 a2_0, .int .i64 a2_1]) (T := 26) (f := fun b => .pointer (some ⟨b, 0, none⟩)) rfl (by first | (go_simp; done) | (go_simp; rfl)) ?_
 intro b5 w6 hu lb hb5
 simp only [Act.put, nm1, nm2, nm3, i64_w]
 have lbb5 := Aside0.mk lb
 have ltb5 := Aside0.mk hb5.lt
 clear lb
 have hu7 := Aside0.mk hu
 clear hu
 refine step_new (cs := [.int .i64 0, .int .i64 0]) (T := 26) (f := fun b => .pointer (some ⟨b, 0, none⟩)) rfl (by first | (go_simp; done) | (go_simp; rfl)) ?_
 intro b8 w9 hu lb hb8
 simp only [Act.put, nm1, nm2, nm3, i64_w]
 have lbb8 := Aside0.mk lb
 have ltb8 := Aside0.mk hb8.lt
 clear lb
 have hu10 := Aside0.mk hu
 clear hu
 refine wpList_nil ?_
 (try simp only [Exit.then, Exit.inBlock, ↓reduceIte, Nat.reduceEqDiff])
 refine hK1 _ _ ?_
 refine wp_seq_k (fun K11 hK11 => ?_)
 refine' wp_region_up 31 [Slot.det _, Slot.det _, Slot.det _, Slot.det _, Slot.det _, Slot.det _, Slot.det _, Slot.det _, Slot.det _, Slot.det _, Slot.det _, Slot.det _, Slot.det _, Slot.det _, Slot.det (.int .i64 t12), Slot.det _, Slot.det _, Slot.det _, Slot.det _, Slot.det _, Slot.det _, Slot.det _, Slot.det _, Slot.det _, Slot.det _, Slot.det _, Slot.det _, Slot.det _, Slot.det _, Slot.det (.int .i64 t14), Slot.det _] (by kernel_rfl) (by kernel_rfl) ?main
 case main =>
  simp only [List.take_succ_cons, List.take_zero]
  refine wpK_ops rfl (fun w1 hu => ?_) ?_
  · clear hu
    go_simp
    first | done | rfl
  simp only [Act.put, nm1, nm2, nm3, i64_w]
  refine wpK_ops rfl (fun w1 hu => ?_) ?_
  · clear hu
    go_simp
    first | done | rfl
  simp only [Act.put, nm1, nm2, nm3, i64_w]
  refine wpK_ops rfl (fun w1 hu => ?_) ?_
  · have cl0 := ((hb2.up (hu7.out.trans hu10.out)).up ((Up.refl _).drew.trans hu)).cell (o := 0) rfl
    go_simp
    first | done | rfl
  simp only [Act.put, nm1, nm2, nm3, i64_w]
  refine wpK_ops rfl (fun w1 hu => ?_) ?_
  · clear hu
    go_simp
    first | done | rfl
  simp only [Act.put, nm1, nm2, nm3, i64_w]
  refine wpK_ops rfl (fun w1 hu => ?_) ?_
  · have cl0 := ((hb5.up hu10.out).up ((Up.refl _).drew.trans hu)).cell (o := 0) rfl
    go_simp
    first | done | rfl
  simp only [Act.put, nm1, nm2, nm3, i64_w]
  refine wpK_ops rfl (fun w1 hu => ?_) ?_
  · clear hu
    go_simp
    first | done | rfl
  simp only [Act.put, nm1, nm2, nm3, i64_w]
  refine wpK_ops rfl (fun w1 hu => ?_) ?_
  · clear hu
    go_simp
    first | done | rfl
  simp only [Act.put, nm1, nm2, nm3, i64_w]
  refine wpK_ops rfl (fun w1 hu => ?_) ?_
  · clear hu
    go_simp
    first | done | rfl
  simp only [Act.put, nm1, nm2, nm3, i64_w]
  refine wpK_ops rfl (fun w1 hu => ?_) ?_
  · have cl0 := ((hb2.up (hu7.out.trans hu10.out)).up ((Up.refl _).drew.trans hu)).cell (o := 1) rfl
    go_simp
    first | done | rfl
  simp only [Act.put, nm1, nm2, nm3, i64_w]
  refine wpK_ops rfl (fun w1 hu => ?_) ?_
  · clear hu
    go_simp
    first | done | rfl
  simp only [Act.put, nm1, nm2, nm3, i64_w]
  refine wpK_ops rfl (fun w1 hu => ?_) ?_
  · have cl0 := ((hb5.up hu10.out).up ((Up.refl _).drew.trans hu)).cell (o := 1) rfl
    go_simp
    first | done | rfl
  simp only [Act.put, nm1, nm2, nm3, i64_w]
  refine wpK_ops rfl (fun w1 hu => ?_) ?_
  · clear hu
    go_simp
    first | done | rfl
  simp only [Act.put, nm1, nm2, nm3, i64_w]
  refine wpK_ops rfl (fun w1 hu => ?_) ?_
  · clear hu
    go_simp
    first | done | rfl
  simp only [Act.put, nm1, nm2, nm3, i64_w]
  refine wpK_ops rfl (fun w1 hu => ?_) ?_
  · clear hu
    go_simp
    first | done | rfl
  simp only [Act.put, nm1, nm2, nm3, i64_w]
  refine wpK_ops rfl (fun w1 hu => ?_) ?_
  · have hcl := (spec_l01Mod.calls K (wrap64 ((wrap64 (a1_0 * a2_0)) + (wrap64 (a1_1 * a2_1)))) a0 t12 w1  A13.out)
    clear hu
    replace hcl := Aside0.mk hcl
    go_simp
    exact hcl.out
  simp only [Act.put, nm1, nm2, nm3, i64_w]
  refine wpK_ops rfl (fun w1 hu => ?_) ?_
  · clear hu
    go_simp
    first | done | rfl
  simp only [Act.put, nm1, nm2, nm3, i64_w]
  refine wpK_ops rfl (fun w1 hu => ?_) ?_
  · clear hu
    go_simp
    first | done | rfl
  simp only [Act.put, nm1, nm2, nm3, i64_w]
  refine wpK_ops rfl (fun w1 hu => ?_) ?_
  · have cl0 := ((hb2.up (hu7.out.trans hu10.out)).up ((Up.refl _).drew.trans hu)).cell (o := 2) rfl
    go_simp
    first | done | rfl
  simp only [Act.put, nm1, nm2, nm3, i64_w]
  refine wpK_ops rfl (fun w1 hu => ?_) ?_
  · clear hu
    go_simp
    first | done | rfl
  simp only [Act.put, nm1, nm2, nm3, i64_w]
  refine wpK_ops rfl (fun w1 hu => ?_) ?_
  · have cl0 := ((hb5.up hu10.out).up ((Up.refl _).drew.trans hu)).cell (o := 0) rfl
    go_simp
    first | done | rfl
  simp only [Act.put, nm1, nm2, nm3, i64_w]
  refine wpK_ops rfl (fun w1 hu => ?_) ?_
  · clear hu
    go_simp
    first | done | rfl
  simp only [Act.put, nm1, nm2, nm3, i64_w]
  refine wpK_ops rfl (fun w1 hu => ?_) ?_
  · clear hu
    go_simp
    first | done | rfl
  simp only [Act.put, nm1, nm2, nm3, i64_w]
  refine wpK_ops rfl (fun w1 hu => ?_) ?_
  · clear hu
    go_simp
    first | done | rfl
  simp only [Act.put, nm1, nm2, nm3, i64_w]
  refine wpK_ops rfl (fun w1 hu => ?_) ?_
  · have cl0 := ((hb2.up (hu7.out.trans hu10.out)).up ((Up.refl _).drew.trans hu)).cell (o := 3) rfl
    go_simp
    first | done | rfl
  simp only [Act.put, nm1, nm2, nm3, i64_w]
  refine wpK_ops rfl (fun w1 hu => ?_) ?_
  · clear hu
    go_simp
    first | done | rfl
  simp only [Act.put, nm1, nm2, nm3, i64_w]
  refine wpK_ops rfl (fun w1 hu => ?_) ?_
  · have cl0 := ((hb5.up hu10.out).up ((Up.refl _).drew.trans hu)).cell (o := 1) rfl
    go_simp
    first | done | rfl
  simp only [Act.put, nm1, nm2, nm3, i64_w]
  refine wpK_ops rfl (fun w1 hu => ?_) ?_
  · clear hu
    go_simp
    first | done | rfl
  simp only [Act.put, nm1, nm2, nm3, i64_w]
  refine wpK_ops rfl (fun w1 hu => ?_) ?_
  · clear hu
    go_simp
    first | done | rfl
  simp only [Act.put, nm1, nm2, nm3, i64_w]
  refine wpK_ops rfl (fun w1 hu => ?_) ?_
  · clear hu
    go_simp
    first | done | rfl
  simp only [Act.put, nm1, nm2, nm3, i64_w]
  refine wpK_ops rfl (fun w1 hu => ?_) ?_
  · have hcl := (spec_l01Mod.calls K (wrap64 ((wrap64 (a1_2 * a2_0)) + (wrap64 (a1_3 * a2_1)))) a0 t14 w1  A15.out)
    clear hu
    replace hcl := Aside0.mk hcl
    go_simp
    exact hcl.out
  simp only [Act.put, nm1, nm2, nm3, i64_w]
  refine wpK_ops rfl (fun w1 hu => ?_) ?_
  · clear hu
    go_simp
    first | done | rfl
  simp only [Act.put, nm1, nm2, nm3, i64_w]
  refine wpK_nil ?_
  intro w16 hu hap
  simp only [List.drop_succ_cons, List.drop_zero]
  replace hu := (Up.refl _).drew.trans hu
  clear hap
  have hu17 := Aside0.mk hu
  clear hu
  have hB0 := (hb8.up hu17.out)
  have cl0 := hB0.cell (o := 0) rfl
  have fr0 := hB0.free 0
  have cl1 := hB0.cell (o := 1) rfl
  have fr1 := hB0.free 1
  refine step_store (b := b8) (cs' := [.int .i64 t12, .int .i64 t14]) (T := 26) (W' := ((w16.setCell ⟨b8, 0, none⟩ (.int .i64 t12)).setCell ⟨b8, 1, none⟩ (.int .i64 t14))) rfl rfl (by first | (go_simp; done) | (go_simp; rfl)) (((Sto.refl _ _).setCell 0 _).setCell 1 _) (((hB0).setCell 0 _).setCell 1 _) ?_
  clear hB0 cl0 fr0 cl1 fr1
  intro w18 hs hb20
  have hs19 := Aside0.mk hs
  clear hs
  refine wpList_nil ?_
  (try simp only [Exit.then, Exit.inBlock, ↓reduceIte, Nat.reduceEqDiff])
  refine hK11 _ _ ?_
  refine wp_ret ?_
  (try simp only [Exit.then, Exit.inBlock, ↓reduceIte, Nat.reduceEqDiff])
  refine hQf _ _ _ ?_
  have cr0 := hb20.cell (o := 0) rfl
  have cr1 := hb20.cell (o := 1) rfl
  exact bodyPost_ret (v := .agg #[.int .i64 t12, .int .i64 t14]) (by first | rfl | (simp [results, Try.results102, go_sem, cr0, cr1]; done) | (simp [results, Try.results102, go_sem, cr0, cr1]; rfl)) rfl ⟨rfl, ((((hu4.out.trans hu7.out).trans hu10.out).trans hu17.out).sto (Nat.le_trans ((Nat.le_trans (hu4.out.size) hu7.out.size)) lbb8.out) hs19.out)⟩

set_option maxHeartbeats 4000000 in
set_option maxRecDepth 100000 in
theorem spec_l07Reflection.calls (K : Nat) (a0 : Int) (a1 : Int) (a2_0 : Int) (a2_1 : Int) (a2_2 : Int) (r0 : Int) (r1 : Int) (r2 : Int) (r3 : Int) (r4 : Int) (r5 : Int) (w : World)  (h : spec_l07Reflection.f K a0 a1 a2_0 a2_1 a2_2 = some (r0, r1, r2, r3, r4, r5)) :
    Calls Try.prog 79 #[.int .i64 a0, .int .i64 a1, .agg #[.int .i64 a2_0, .int .i64 a2_1, .int .i64 a2_2]] w fun e w' => e = .returned (.agg #[.int .i64 r0, .int .i64 r1, .int .i64 r2, .int .i64 r3, .int .i64 r4, .int .i64 r5]) ∧ Up w w' := by
 have H : (((spec_l02Direction.f K a0 a2_0 a2_1 a2_2).bind fun (t9, t10) => ((spec_l02Product.f K a0 a1 t9 t10 t9 t10).bind fun t21 => ((spec_l01Inverse.f K t21 a0).bind fun t25 => ((spec_l07Along.f K a0 a1 t9 t10 (wrap64 (2 * t25)) 1 0).bind fun (t30, t31) => ((spec_l07Along.f K a0 a1 t9 t10 (wrap64 (2 * t25)) 0 1).bind fun (t42, t43) => ((spec_l07Two.f K a0 a2_0 a2_1 a2_2).bind fun (t61, t62, t63, t64) => ((spec_l07Lead.f K a0 t30 t42 t31 t43 0 0 t61 t62).bind fun (t83, t84) => ((spec_l01Minus.f K a0 t61 t62 t83 t84).bind fun (t86, t87) => some (t30, t42, t31, t43, t86, t87))))))))) : Option (Int × Int × Int × Int × Int × Int)) = some (r0, r1, r2, r3, r4, r5) := h
 clear h
 replace H := Option.bind_eq_some_iff.mp H
 obtain ⟨⟨t9, t10⟩, A11, H⟩ := H
 replace A11 := Aside0.mk A11
 try dsimp only at H
 replace H := Option.bind_eq_some_iff.mp H
 obtain ⟨t21, A22, H⟩ := H
 replace A22 := Aside0.mk A22
 try dsimp only at H
 replace H := Option.bind_eq_some_iff.mp H
 obtain ⟨t25, A26, H⟩ := H
 replace A26 := Aside0.mk A26
 try dsimp only at H
 replace H := Option.bind_eq_some_iff.mp H
 obtain ⟨⟨t30, t31⟩, A32, H⟩ := H
 replace A32 := Aside0.mk A32
 try dsimp only at H
 replace H := Option.bind_eq_some_iff.mp H
 obtain ⟨⟨t42, t43⟩, A44, H⟩ := H
 replace A44 := Aside0.mk A44
 try dsimp only at H
 replace H := Option.bind_eq_some_iff.mp H
 obtain ⟨⟨t61, t62, t63, t64⟩, A65, H⟩ := H
 replace A65 := Aside0.mk A65
 try dsimp only at H
 replace H := Option.bind_eq_some_iff.mp H
 obtain ⟨⟨t83, t84⟩, A85, H⟩ := H
 replace A85 := Aside0.mk A85
 try dsimp only at H
 replace H := Option.bind_eq_some_iff.mp H
 obtain ⟨⟨t86, t87⟩, A88, H⟩ := H
 replace A88 := Aside0.mk A88
 try dsimp only at H
 simp only [Option.some.injEq, Prod.mk.injEq] at H
 obtain ⟨rfl, rfl, rfl, rfl, rfl, rfl⟩ := H
 go_enter Try.func79, Try.ntmps79
 refine wp_hide (fun Qf hQf => ?_)
 refine wp_seq_k (fun K1 hK1 => ?_)
 refine wp_region_lit ?_
 refine step_new (cs := [.int .i64 a2_0, .int .i64 a2_1, .int .i64 a2_2]) (T := 54) (f := fun b => .pointer (some ⟨b, 0, none⟩)) rfl (by first | (go_simp; done) | (go_simp; rfl)) ?_
 intro b2 w3 hu lb hb2
 simp only [Act.put, nm1, nm2, nm3, i64_w]
 have lbb2 := Aside0.mk lb
 have ltb2 := Aside0.mk hb2.lt
 clear lb
 have hu4 := Aside0.mk hu
 clear hu
 refine step_new (cs := [.int .i64 0, .int .i64 0, .int .i64 0, .int .i64 0, .int .i64 0, .int .i64 0]) (T := 30) (f := fun b => .pointer (some ⟨b, 0, none⟩)) rfl (by first | (go_simp; done) | (go_simp; rfl)) ?_
 intro b5 w6 hu lb hb5
 simp only [Act.put, nm1, nm2, nm3, i64_w]
 have lbb5 := Aside0.mk lb
 have ltb5 := Aside0.mk hb5.lt
 clear lb
 have hu7 := Aside0.mk hu
 clear hu
 refine wpList_nil ?_
 (try simp only [Exit.then, Exit.inBlock, ↓reduceIte, Nat.reduceEqDiff])
 refine hK1 _ _ ?_
 refine wp_seq_k (fun K8 hK8 => ?_)
 refine wp_region_lit ?_
 refine wpList_plain rfl (fun Ko hKo => ?_)
 go_simp
 refine hKo _ _ ?_
 clear hKo Ko
 try simp only [Act.put, nm1, nm2, nm3, i64_w]
 have cl0 := (hb2.up hu7.out).cell (o := 0) rfl
 have cl1 := (hb2.up hu7.out).cell (o := 1) rfl
 have cl2 := (hb2.up hu7.out).cell (o := 2) rfl
 refine wpList_plain rfl (fun Ko hKo => ?_)
 go_simp
 refine hKo _ _ ?_
 clear hKo Ko
 clear cl0 cl1 cl2
 try simp only [Act.put, nm1, nm2, nm3, i64_w]
 refine step_call (wanted_none rfl) (by first | (go_simp; done) | (go_simp; rfl)) (spec_l02Direction.calls K a0 a2_0 a2_1 a2_2 t9 t10 w6  A11.out) ?_
 rintro e w12 ⟨rfl, hu⟩
 have hu13 := Aside0.mk hu
 clear hu
 refine ⟨_, rfl, ?_⟩
 simp only [Act.put, nm1, nm2, nm3, i64_w]
 refine step_new (cs := [.int .i64 0, .int .i64 0]) (T := 26) (f := fun b => .pointer (some ⟨b, 0, none⟩)) rfl (by first | (go_simp; done) | (go_simp; rfl)) ?_
 intro b14 w15 hu lb hb14
 simp only [Act.put, nm1, nm2, nm3, i64_w]
 have lbb14 := Aside0.mk lb
 have ltb14 := Aside0.mk hb14.lt
 clear lb
 have hu16 := Aside0.mk hu
 clear hu
 have hB0 := hb14
 have cl0 := hB0.cell (o := 0) rfl
 have fr0 := hB0.free 0
 have cl1 := hB0.cell (o := 1) rfl
 have fr1 := hB0.free 1
 refine step_store (b := b14) (cs' := [.int .i64 t9, .int .i64 t10]) (T := 26) (W' := ((w15.setCell ⟨b14, 0, none⟩ (.int .i64 t9)).setCell ⟨b14, 1, none⟩ (.int .i64 t10))) rfl rfl (by first | (go_simp; done) | (go_simp; rfl)) (((Sto.refl _ _).setCell 0 _).setCell 1 _) (((hB0).setCell 0 _).setCell 1 _) ?_
 clear hB0 cl0 fr0 cl1 fr1
 intro w17 hs hb19
 have hs18 := Aside0.mk hs
 clear hs
 refine wpList_nil ?_
 (try simp only [Exit.then, Exit.inBlock, ↓reduceIte, Nat.reduceEqDiff])
 refine hK8 _ _ ?_
 refine wp_seq_k (fun K20 hK20 => ?_)
 refine wp_region_lit ?_
 refine wpList_plain rfl (fun Ko hKo => ?_)
 go_simp
 refine hKo _ _ ?_
 clear hKo Ko
 try simp only [Act.put, nm1, nm2, nm3, i64_w]
 refine wpList_plain rfl (fun Ko hKo => ?_)
 go_simp
 refine hKo _ _ ?_
 clear hKo Ko
 try simp only [Act.put, nm1, nm2, nm3, i64_w]
 have cl0 := hb19.cell (o := 0) rfl
 have cl1 := hb19.cell (o := 1) rfl
 refine wpList_plain rfl (fun Ko hKo => ?_)
 go_simp
 refine hKo _ _ ?_
 clear hKo Ko
 clear cl0 cl1
 try simp only [Act.put, nm1, nm2, nm3, i64_w]
 have cl0 := hb19.cell (o := 0) rfl
 have cl1 := hb19.cell (o := 1) rfl
 refine wpList_plain rfl (fun Ko hKo => ?_)
 go_simp
 refine hKo _ _ ?_
 clear hKo Ko
 clear cl0 cl1
 try simp only [Act.put, nm1, nm2, nm3, i64_w]
 refine step_call (wanted_none rfl) (by first | (go_simp; done) | (go_simp; rfl)) (spec_l02Product.calls K a0 a1 t9 t10 t9 t10 t21 w17  A22.out) ?_
 rintro e w23 ⟨rfl, hu⟩
 have hu24 := Aside0.mk hu
 clear hu
 refine ⟨_, rfl, ?_⟩
 simp only [Act.put, nm1, nm2, nm3, i64_w]
 refine wpList_plain rfl (fun Ko hKo => ?_)
 go_simp
 refine hKo _ _ ?_
 clear hKo Ko
 try simp only [Act.put, nm1, nm2, nm3, i64_w]
 refine step_call (wanted_none rfl) (by first | (go_simp; done) | (go_simp; rfl)) (spec_l01Inverse.calls K t21 a0 t25 w23  A26.out) ?_
 rintro e w27 ⟨rfl, hu⟩
 have hu28 := Aside0.mk hu
 clear hu
 refine ⟨_, rfl, ?_⟩
 simp only [Act.put, nm1, nm2, nm3, i64_w]
 refine wpList_plain rfl (fun Ko hKo => ?_)
 go_simp
 refine hKo _ _ ?_
 clear hKo Ko
 try simp only [Act.put, nm1, nm2, nm3, i64_w]
 refine wpList_plain rfl (fun Ko hKo => ?_)
 go_simp
 refine hKo _ _ ?_
 clear hKo Ko
 try simp only [Act.put, nm1, nm2, nm3, i64_w]
 refine wpList_nil ?_
 (try simp only [Exit.then, Exit.inBlock, ↓reduceIte, Nat.reduceEqDiff])
 refine hK20 _ _ ?_
 refine wp_seq_k (fun K29 hK29 => ?_)
 refine wp_region_lit ?_
 refine wpList_plain rfl (fun Ko hKo => ?_)
 go_simp
 refine hKo _ _ ?_
 clear hKo Ko
 try simp only [Act.put, nm1, nm2, nm3, i64_w]
 refine wpList_plain rfl (fun Ko hKo => ?_)
 go_simp
 refine hKo _ _ ?_
 clear hKo Ko
 try simp only [Act.put, nm1, nm2, nm3, i64_w]
 have cl0 := (hb19.up (hu24.out.trans hu28.out)).cell (o := 0) rfl
 have cl1 := (hb19.up (hu24.out.trans hu28.out)).cell (o := 1) rfl
 refine wpList_plain rfl (fun Ko hKo => ?_)
 go_simp
 refine hKo _ _ ?_
 clear hKo Ko
 clear cl0 cl1
 try simp only [Act.put, nm1, nm2, nm3, i64_w]
 refine wpList_plain rfl (fun Ko hKo => ?_)
 go_simp
 refine hKo _ _ ?_
 clear hKo Ko
 try simp only [Act.put, nm1, nm2, nm3, i64_w]
 refine wpList_plain rfl (fun Ko hKo => ?_)
 go_simp
 refine hKo _ _ ?_
 clear hKo Ko
 try simp only [Act.put, nm1, nm2, nm3, i64_w]
 refine step_call (wanted_none rfl) (by first | (go_simp; done) | (go_simp; rfl)) (spec_l07Along.calls K a0 a1 t9 t10 (wrap64 (2 * t25)) 1 0 t30 t31 w27  A32.out) ?_
 rintro e w33 ⟨rfl, hu⟩
 have hu34 := Aside0.mk hu
 clear hu
 refine ⟨_, rfl, ?_⟩
 simp only [Act.put, nm1, nm2, nm3, i64_w]
 refine step_new (cs := [.int .i64 0, .int .i64 0]) (T := 26) (f := fun b => .pointer (some ⟨b, 0, none⟩)) rfl (by first | (go_simp; done) | (go_simp; rfl)) ?_
 intro b35 w36 hu lb hb35
 simp only [Act.put, nm1, nm2, nm3, i64_w]
 have lbb35 := Aside0.mk lb
 have ltb35 := Aside0.mk hb35.lt
 clear lb
 have hu37 := Aside0.mk hu
 clear hu
 have hB0 := hb35
 have cl0 := hB0.cell (o := 0) rfl
 have fr0 := hB0.free 0
 have cl1 := hB0.cell (o := 1) rfl
 have fr1 := hB0.free 1
 refine step_store (b := b35) (cs' := [.int .i64 t30, .int .i64 t31]) (T := 26) (W' := ((w36.setCell ⟨b35, 0, none⟩ (.int .i64 t30)).setCell ⟨b35, 1, none⟩ (.int .i64 t31))) rfl rfl (by first | (go_simp; done) | (go_simp; rfl)) (((Sto.refl _ _).setCell 0 _).setCell 1 _) (((hB0).setCell 0 _).setCell 1 _) ?_
 clear hB0 cl0 fr0 cl1 fr1
 intro w38 hs hb40
 have hs39 := Aside0.mk hs
 clear hs
 refine wpList_nil ?_
 (try simp only [Exit.then, Exit.inBlock, ↓reduceIte, Nat.reduceEqDiff])
 refine hK29 _ _ ?_
 refine wp_seq_k (fun K41 hK41 => ?_)
 refine wp_region_lit ?_
 refine wpList_plain rfl (fun Ko hKo => ?_)
 go_simp
 refine hKo _ _ ?_
 clear hKo Ko
 try simp only [Act.put, nm1, nm2, nm3, i64_w]
 refine wpList_plain rfl (fun Ko hKo => ?_)
 go_simp
 refine hKo _ _ ?_
 clear hKo Ko
 try simp only [Act.put, nm1, nm2, nm3, i64_w]
 have cl0 := (hb19.up ((((hu24.out.trans hu28.out).trans hu34.out).trans hu37.out).sto (Nat.le_trans ((Nat.le_trans ((Nat.le_trans (hu24.out.size) hu28.out.size)) hu34.out.size)) lbb35.out) hs39.out)).cell (o := 0) rfl
 have cl1 := (hb19.up ((((hu24.out.trans hu28.out).trans hu34.out).trans hu37.out).sto (Nat.le_trans ((Nat.le_trans ((Nat.le_trans (hu24.out.size) hu28.out.size)) hu34.out.size)) lbb35.out) hs39.out)).cell (o := 1) rfl
 refine wpList_plain rfl (fun Ko hKo => ?_)
 go_simp
 refine hKo _ _ ?_
 clear hKo Ko
 clear cl0 cl1
 try simp only [Act.put, nm1, nm2, nm3, i64_w]
 refine wpList_plain rfl (fun Ko hKo => ?_)
 go_simp
 refine hKo _ _ ?_
 clear hKo Ko
 try simp only [Act.put, nm1, nm2, nm3, i64_w]
 refine wpList_plain rfl (fun Ko hKo => ?_)
 go_simp
 refine hKo _ _ ?_
 clear hKo Ko
 try simp only [Act.put, nm1, nm2, nm3, i64_w]
 refine step_call (wanted_none rfl) (by first | (go_simp; done) | (go_simp; rfl)) (spec_l07Along.calls K a0 a1 t9 t10 (wrap64 (2 * t25)) 0 1 t42 t43 w38  A44.out) ?_
 rintro e w45 ⟨rfl, hu⟩
 have hu46 := Aside0.mk hu
 clear hu
 refine ⟨_, rfl, ?_⟩
 simp only [Act.put, nm1, nm2, nm3, i64_w]
 refine step_new (cs := [.int .i64 0, .int .i64 0]) (T := 26) (f := fun b => .pointer (some ⟨b, 0, none⟩)) rfl (by first | (go_simp; done) | (go_simp; rfl)) ?_
 intro b47 w48 hu lb hb47
 simp only [Act.put, nm1, nm2, nm3, i64_w]
 have lbb47 := Aside0.mk lb
 have ltb47 := Aside0.mk hb47.lt
 clear lb
 have hu49 := Aside0.mk hu
 clear hu
 have hB0 := hb47
 have cl0 := hB0.cell (o := 0) rfl
 have fr0 := hB0.free 0
 have cl1 := hB0.cell (o := 1) rfl
 have fr1 := hB0.free 1
 refine step_store (b := b47) (cs' := [.int .i64 t42, .int .i64 t43]) (T := 26) (W' := ((w48.setCell ⟨b47, 0, none⟩ (.int .i64 t42)).setCell ⟨b47, 1, none⟩ (.int .i64 t43))) rfl rfl (by first | (go_simp; done) | (go_simp; rfl)) (((Sto.refl _ _).setCell 0 _).setCell 1 _) (((hB0).setCell 0 _).setCell 1 _) ?_
 clear hB0 cl0 fr0 cl1 fr1
 intro w50 hs hb52
 have hs51 := Aside0.mk hs
 clear hs
 refine wpList_nil ?_
 (try simp only [Exit.then, Exit.inBlock, ↓reduceIte, Nat.reduceEqDiff])
 refine hK41 _ _ ?_
 refine wp_seq_k (fun K53 hK53 => ?_)
 refine wp_region_lit ?_
 refine wpList_plain rfl (fun Ko hKo => ?_)
 go_simp
 refine hKo _ _ ?_
 clear hKo Ko
 try simp only [Act.put, nm1, nm2, nm3, i64_w]
 have cl0 := (hb40.up ((hu46.out.trans hu49.out).sto (Nat.le_trans (hu46.out.size) lbb47.out) hs51.out)).cell (o := 0) rfl
 refine wpList_plain rfl (fun Ko hKo => ?_)
 go_simp
 refine hKo _ _ ?_
 clear hKo Ko
 clear cl0
 try simp only [Act.put, nm1, nm2, nm3, i64_w]
 refine wpList_plain rfl (fun Ko hKo => ?_)
 go_simp
 refine hKo _ _ ?_
 clear hKo Ko
 try simp only [Act.put, nm1, nm2, nm3, i64_w]
 have cl0 := hb52.cell (o := 0) rfl
 refine wpList_plain rfl (fun Ko hKo => ?_)
 go_simp
 refine hKo _ _ ?_
 clear hKo Ko
 clear cl0
 try simp only [Act.put, nm1, nm2, nm3, i64_w]
 refine wpList_plain rfl (fun Ko hKo => ?_)
 go_simp
 refine hKo _ _ ?_
 clear hKo Ko
 try simp only [Act.put, nm1, nm2, nm3, i64_w]
 have cl0 := (hb40.up ((hu46.out.trans hu49.out).sto (Nat.le_trans (hu46.out.size) lbb47.out) hs51.out)).cell (o := 1) rfl
 refine wpList_plain rfl (fun Ko hKo => ?_)
 go_simp
 refine hKo _ _ ?_
 clear hKo Ko
 clear cl0
 try simp only [Act.put, nm1, nm2, nm3, i64_w]
 refine wpList_plain rfl (fun Ko hKo => ?_)
 go_simp
 refine hKo _ _ ?_
 clear hKo Ko
 try simp only [Act.put, nm1, nm2, nm3, i64_w]
 have cl0 := hb52.cell (o := 1) rfl
 refine wpList_plain rfl (fun Ko hKo => ?_)
 go_simp
 refine hKo _ _ ?_
 clear hKo Ko
 clear cl0
 try simp only [Act.put, nm1, nm2, nm3, i64_w]
 refine wpList_plain rfl (fun Ko hKo => ?_)
 go_simp
 refine hKo _ _ ?_
 clear hKo Ko
 try simp only [Act.put, nm1, nm2, nm3, i64_w]
 refine wpList_plain rfl (fun Ko hKo => ?_)
 go_simp
 refine hKo _ _ ?_
 clear hKo Ko
 try simp only [Act.put, nm1, nm2, nm3, i64_w]
 refine step_new (cs := [.int .i64 0, .int .i64 0, .int .i64 0, .int .i64 0, .int .i64 0, .int .i64 0]) (T := 30) (f := fun b => .pointer (some ⟨b, 0, none⟩)) rfl (by first | (go_simp; done) | (go_simp; rfl)) ?_
 intro b54 w55 hu lb hb54
 simp only [Act.put, nm1, nm2, nm3, i64_w]
 have lbb54 := Aside0.mk lb
 have ltb54 := Aside0.mk hb54.lt
 clear lb
 have hu56 := Aside0.mk hu
 clear hu
 have hB0 := hb54
 have cl0 := hB0.cell (o := 0) rfl
 have fr0 := hB0.free 0
 have cl1 := hB0.cell (o := 1) rfl
 have fr1 := hB0.free 1
 have cl2 := hB0.cell (o := 2) rfl
 have fr2 := hB0.free 2
 have cl3 := hB0.cell (o := 3) rfl
 have fr3 := hB0.free 3
 have cl4 := hB0.cell (o := 4) rfl
 have fr4 := hB0.free 4
 have cl5 := hB0.cell (o := 5) rfl
 have fr5 := hB0.free 5
 refine step_store (b := b54) (cs' := [.int .i64 t30, .int .i64 t42, .int .i64 t31, .int .i64 t43, .int .i64 0, .int .i64 0]) (T := 30) (W' := ((((((w55.setCell ⟨b54, 0, none⟩ (.int .i64 t30)).setCell ⟨b54, 1, none⟩ (.int .i64 t42)).setCell ⟨b54, 2, none⟩ (.int .i64 t31)).setCell ⟨b54, 3, none⟩ (.int .i64 t43)).setCell ⟨b54, 4, none⟩ (.int .i64 0)).setCell ⟨b54, 5, none⟩ (.int .i64 0))) rfl rfl (by first | (go_simp; done) | (go_simp; rfl)) (((((((Sto.refl _ _).setCell 0 _).setCell 1 _).setCell 2 _).setCell 3 _).setCell 4 _).setCell 5 _) (((((((hB0).setCell 0 _).setCell 1 _).setCell 2 _).setCell 3 _).setCell 4 _).setCell 5 _) ?_
 clear hB0 cl0 fr0 cl1 fr1 cl2 fr2 cl3 fr3 cl4 fr4 cl5 fr5
 intro w57 hs hb59
 have hs58 := Aside0.mk hs
 clear hs
 refine wpList_nil ?_
 (try simp only [Exit.then, Exit.inBlock, ↓reduceIte, Nat.reduceEqDiff])
 refine hK53 _ _ ?_
 refine wp_seq_k (fun K60 hK60 => ?_)
 refine wp_region_lit ?_
 refine wpList_plain rfl (fun Ko hKo => ?_)
 go_simp
 refine hKo _ _ ?_
 clear hKo Ko
 try simp only [Act.put, nm1, nm2, nm3, i64_w]
 have cl0 := (hb2.up (((((((((((((hu7.out.trans hu13.out).trans hu16.out).sto (Nat.le_trans ((Nat.le_trans (hu7.out.size) hu13.out.size)) lbb14.out) hs18.out).trans hu24.out).trans hu28.out).trans hu34.out).trans hu37.out).sto (Nat.le_trans ((Nat.le_trans ((Nat.le_trans ((Nat.le_trans ((Nat.le_trans ((Nat.le_trans ((Nat.le_trans (hu7.out.size) hu13.out.size)) hu16.out.size)) (Nat.le_of_eq hs18.out.size.symm))) hu24.out.size)) hu28.out.size)) hu34.out.size)) lbb35.out) hs39.out).trans hu46.out).trans hu49.out).sto (Nat.le_trans ((Nat.le_trans ((Nat.le_trans ((Nat.le_trans ((Nat.le_trans ((Nat.le_trans ((Nat.le_trans ((Nat.le_trans ((Nat.le_trans ((Nat.le_trans (hu7.out.size) hu13.out.size)) hu16.out.size)) (Nat.le_of_eq hs18.out.size.symm))) hu24.out.size)) hu28.out.size)) hu34.out.size)) hu37.out.size)) (Nat.le_of_eq hs39.out.size.symm))) hu46.out.size)) lbb47.out) hs51.out).trans hu56.out).sto (Nat.le_trans ((Nat.le_trans ((Nat.le_trans ((Nat.le_trans ((Nat.le_trans ((Nat.le_trans ((Nat.le_trans ((Nat.le_trans ((Nat.le_trans ((Nat.le_trans ((Nat.le_trans ((Nat.le_trans (hu7.out.size) hu13.out.size)) hu16.out.size)) (Nat.le_of_eq hs18.out.size.symm))) hu24.out.size)) hu28.out.size)) hu34.out.size)) hu37.out.size)) (Nat.le_of_eq hs39.out.size.symm))) hu46.out.size)) hu49.out.size)) (Nat.le_of_eq hs51.out.size.symm))) lbb54.out) hs58.out)).cell (o := 0) rfl
 have cl1 := (hb2.up (((((((((((((hu7.out.trans hu13.out).trans hu16.out).sto (Nat.le_trans ((Nat.le_trans (hu7.out.size) hu13.out.size)) lbb14.out) hs18.out).trans hu24.out).trans hu28.out).trans hu34.out).trans hu37.out).sto (Nat.le_trans ((Nat.le_trans ((Nat.le_trans ((Nat.le_trans ((Nat.le_trans ((Nat.le_trans ((Nat.le_trans (hu7.out.size) hu13.out.size)) hu16.out.size)) (Nat.le_of_eq hs18.out.size.symm))) hu24.out.size)) hu28.out.size)) hu34.out.size)) lbb35.out) hs39.out).trans hu46.out).trans hu49.out).sto (Nat.le_trans ((Nat.le_trans ((Nat.le_trans ((Nat.le_trans ((Nat.le_trans ((Nat.le_trans ((Nat.le_trans ((Nat.le_trans ((Nat.le_trans ((Nat.le_trans (hu7.out.size) hu13.out.size)) hu16.out.size)) (Nat.le_of_eq hs18.out.size.symm))) hu24.out.size)) hu28.out.size)) hu34.out.size)) hu37.out.size)) (Nat.le_of_eq hs39.out.size.symm))) hu46.out.size)) lbb47.out) hs51.out).trans hu56.out).sto (Nat.le_trans ((Nat.le_trans ((Nat.le_trans ((Nat.le_trans ((Nat.le_trans ((Nat.le_trans ((Nat.le_trans ((Nat.le_trans ((Nat.le_trans ((Nat.le_trans ((Nat.le_trans ((Nat.le_trans (hu7.out.size) hu13.out.size)) hu16.out.size)) (Nat.le_of_eq hs18.out.size.symm))) hu24.out.size)) hu28.out.size)) hu34.out.size)) hu37.out.size)) (Nat.le_of_eq hs39.out.size.symm))) hu46.out.size)) hu49.out.size)) (Nat.le_of_eq hs51.out.size.symm))) lbb54.out) hs58.out)).cell (o := 1) rfl
 have cl2 := (hb2.up (((((((((((((hu7.out.trans hu13.out).trans hu16.out).sto (Nat.le_trans ((Nat.le_trans (hu7.out.size) hu13.out.size)) lbb14.out) hs18.out).trans hu24.out).trans hu28.out).trans hu34.out).trans hu37.out).sto (Nat.le_trans ((Nat.le_trans ((Nat.le_trans ((Nat.le_trans ((Nat.le_trans ((Nat.le_trans ((Nat.le_trans (hu7.out.size) hu13.out.size)) hu16.out.size)) (Nat.le_of_eq hs18.out.size.symm))) hu24.out.size)) hu28.out.size)) hu34.out.size)) lbb35.out) hs39.out).trans hu46.out).trans hu49.out).sto (Nat.le_trans ((Nat.le_trans ((Nat.le_trans ((Nat.le_trans ((Nat.le_trans ((Nat.le_trans ((Nat.le_trans ((Nat.le_trans ((Nat.le_trans ((Nat.le_trans (hu7.out.size) hu13.out.size)) hu16.out.size)) (Nat.le_of_eq hs18.out.size.symm))) hu24.out.size)) hu28.out.size)) hu34.out.size)) hu37.out.size)) (Nat.le_of_eq hs39.out.size.symm))) hu46.out.size)) lbb47.out) hs51.out).trans hu56.out).sto (Nat.le_trans ((Nat.le_trans ((Nat.le_trans ((Nat.le_trans ((Nat.le_trans ((Nat.le_trans ((Nat.le_trans ((Nat.le_trans ((Nat.le_trans ((Nat.le_trans ((Nat.le_trans ((Nat.le_trans (hu7.out.size) hu13.out.size)) hu16.out.size)) (Nat.le_of_eq hs18.out.size.symm))) hu24.out.size)) hu28.out.size)) hu34.out.size)) hu37.out.size)) (Nat.le_of_eq hs39.out.size.symm))) hu46.out.size)) hu49.out.size)) (Nat.le_of_eq hs51.out.size.symm))) lbb54.out) hs58.out)).cell (o := 2) rfl
 refine wpList_plain rfl (fun Ko hKo => ?_)
 go_simp
 refine hKo _ _ ?_
 clear hKo Ko
 clear cl0 cl1 cl2
 try simp only [Act.put, nm1, nm2, nm3, i64_w]
 refine step_call (wanted_none rfl) (by first | (go_simp; done) | (go_simp; rfl)) (spec_l07Two.calls K a0 a2_0 a2_1 a2_2 t61 t62 t63 t64 w57  A65.out) ?_
 rintro e w66 ⟨rfl, hu⟩
 have hu67 := Aside0.mk hu
 clear hu
 refine ⟨_, rfl, ?_⟩
 simp only [Act.put, nm1, nm2, nm3, i64_w]
 refine wpList_plain rfl (fun Ko hKo => ?_)
 go_simp
 refine hKo _ _ ?_
 clear hKo Ko
 try simp only [Act.put, nm1, nm2, nm3, i64_w]
 refine wpList_plain rfl (fun Ko hKo => ?_)
 go_simp
 refine hKo _ _ ?_
 clear hKo Ko
 try simp only [Act.put, nm1, nm2, nm3, i64_w]
 refine wpList_plain rfl (fun Ko hKo => ?_)
 go_simp
 refine hKo _ _ ?_
 clear hKo Ko
 try simp only [Act.put, nm1, nm2, nm3, i64_w]
 refine step_new (cs := [.int .i64 0, .int .i64 0]) (T := 26) (f := fun b => .pointer (some ⟨b, 0, none⟩)) rfl (by first | (go_simp; done) | (go_simp; rfl)) ?_
 intro b68 w69 hu lb hb68
 simp only [Act.put, nm1, nm2, nm3, i64_w]
 have lbb68 := Aside0.mk lb
 have ltb68 := Aside0.mk hb68.lt
 clear lb
 have hu70 := Aside0.mk hu
 clear hu
 refine step_new (cs := [.int .i64 0, .int .i64 0]) (T := 26) (f := fun b => .pointer (some ⟨b, 0, none⟩)) rfl (by first | (go_simp; done) | (go_simp; rfl)) ?_
 intro b71 w72 hu lb hb71
 simp only [Act.put, nm1, nm2, nm3, i64_w]
 have lbb71 := Aside0.mk lb
 have ltb71 := Aside0.mk hb71.lt
 clear lb
 have hu73 := Aside0.mk hu
 clear hu
 have hB0 := (hb68.up hu73.out)
 have cl0 := hB0.cell (o := 0) rfl
 have fr0 := hB0.free 0
 have cl1 := hB0.cell (o := 1) rfl
 have fr1 := hB0.free 1
 refine step_store (b := b68) (cs' := [.int .i64 t61, .int .i64 t62]) (T := 26) (W' := ((w72.setCell ⟨b68, 0, none⟩ (.int .i64 t61)).setCell ⟨b68, 1, none⟩ (.int .i64 t62))) rfl rfl (by first | (go_simp; done) | (go_simp; rfl)) (((Sto.refl _ _).setCell 0 _).setCell 1 _) (((hB0).setCell 0 _).setCell 1 _) ?_
 clear hB0 cl0 fr0 cl1 fr1
 intro w74 hs hb76
 have hs75 := Aside0.mk hs
 clear hs
 have h77 := hb71.sto hs75.out (Ne.symm (Nat.ne_of_lt (Nat.lt_of_lt_of_le ltb68.out lbb71.out)))
 have hB0 := h77
 have cl0 := hB0.cell (o := 0) rfl
 have fr0 := hB0.free 0
 have cl1 := hB0.cell (o := 1) rfl
 have fr1 := hB0.free 1
 refine step_store (b := b71) (cs' := [.int .i64 t63, .int .i64 t64]) (T := 26) (W' := ((w74.setCell ⟨b71, 0, none⟩ (.int .i64 t63)).setCell ⟨b71, 1, none⟩ (.int .i64 t64))) rfl rfl (by first | (go_simp; done) | (go_simp; rfl)) (((Sto.refl _ _).setCell 0 _).setCell 1 _) (((hB0).setCell 0 _).setCell 1 _) ?_
 clear hB0 cl0 fr0 cl1 fr1
 intro w78 hs hb80
 have hs79 := Aside0.mk hs
 clear hs
 have h81 := hb76.sto hs79.out (Nat.ne_of_lt (Nat.lt_of_lt_of_le ltb68.out lbb71.out))
 refine wpList_nil ?_
 (try simp only [Exit.then, Exit.inBlock, ↓reduceIte, Nat.reduceEqDiff])
 refine hK60 _ _ ?_
 refine wp_seq_k (fun K82 hK82 => ?_)
 refine' wp_region_up 8 [Slot.det _, Slot.det _, Slot.det _, Slot.det _, Slot.det _, Slot.det (.agg #[.int .i64 t83, .int .i64 t84]), Slot.det (.agg #[.int .i64 t86, .int .i64 t87]), Slot.det _] (by kernel_rfl) (by kernel_rfl) ?main
 case main =>
  simp only [List.take_succ_cons, List.take_zero]
  refine wpK_ops rfl (fun w1 hu => ?_) ?_
  · clear hu
    go_simp
    first | done | rfl
  simp only [Act.put, nm1, nm2, nm3, i64_w]
  refine wpK_ops rfl (fun w1 hu => ?_) ?_
  · have cl0 := (h81.up ((Up.refl _).drew.trans hu)).cell (o := 0) rfl
    have cl1 := (h81.up ((Up.refl _).drew.trans hu)).cell (o := 1) rfl
    go_simp
    first | done | rfl
  simp only [Act.put, nm1, nm2, nm3, i64_w]
  refine wpK_ops rfl (fun w1 hu => ?_) ?_
  · clear hu
    go_simp
    first | done | rfl
  simp only [Act.put, nm1, nm2, nm3, i64_w]
  refine wpK_ops rfl (fun w1 hu => ?_) ?_
  · have cl0 := ((hb59.up ((((hu67.out.trans hu70.out).trans hu73.out).sto (Nat.le_trans (hu67.out.size) lbb68.out) hs75.out).sto (Nat.le_trans ((Nat.le_trans (hu67.out.size) hu70.out.size)) lbb71.out) hs79.out)).up ((Up.refl _).drew.trans hu)).cell (o := 0) rfl
    have cl1 := ((hb59.up ((((hu67.out.trans hu70.out).trans hu73.out).sto (Nat.le_trans (hu67.out.size) lbb68.out) hs75.out).sto (Nat.le_trans ((Nat.le_trans (hu67.out.size) hu70.out.size)) lbb71.out) hs79.out)).up ((Up.refl _).drew.trans hu)).cell (o := 1) rfl
    have cl2 := ((hb59.up ((((hu67.out.trans hu70.out).trans hu73.out).sto (Nat.le_trans (hu67.out.size) lbb68.out) hs75.out).sto (Nat.le_trans ((Nat.le_trans (hu67.out.size) hu70.out.size)) lbb71.out) hs79.out)).up ((Up.refl _).drew.trans hu)).cell (o := 2) rfl
    have cl3 := ((hb59.up ((((hu67.out.trans hu70.out).trans hu73.out).sto (Nat.le_trans (hu67.out.size) lbb68.out) hs75.out).sto (Nat.le_trans ((Nat.le_trans (hu67.out.size) hu70.out.size)) lbb71.out) hs79.out)).up ((Up.refl _).drew.trans hu)).cell (o := 3) rfl
    have cl4 := ((hb59.up ((((hu67.out.trans hu70.out).trans hu73.out).sto (Nat.le_trans (hu67.out.size) lbb68.out) hs75.out).sto (Nat.le_trans ((Nat.le_trans (hu67.out.size) hu70.out.size)) lbb71.out) hs79.out)).up ((Up.refl _).drew.trans hu)).cell (o := 4) rfl
    have cl5 := ((hb59.up ((((hu67.out.trans hu70.out).trans hu73.out).sto (Nat.le_trans (hu67.out.size) lbb68.out) hs75.out).sto (Nat.le_trans ((Nat.le_trans (hu67.out.size) hu70.out.size)) lbb71.out) hs79.out)).up ((Up.refl _).drew.trans hu)).cell (o := 5) rfl
    go_simp
    first | done | rfl
  simp only [Act.put, nm1, nm2, nm3, i64_w]
  refine wpK_ops rfl (fun w1 hu => ?_) ?_
  · have cl0 := (h81.up ((Up.refl _).drew.trans hu)).cell (o := 0) rfl
    have cl1 := (h81.up ((Up.refl _).drew.trans hu)).cell (o := 1) rfl
    go_simp
    first | done | rfl
  simp only [Act.put, nm1, nm2, nm3, i64_w]
  refine wpK_ops rfl (fun w1 hu => ?_) ?_
  · have hcl := (spec_l07Lead.calls K a0 t30 t42 t31 t43 0 0 t61 t62 t83 t84 w1  A85.out)
    clear hu
    replace hcl := Aside0.mk hcl
    go_simp
    exact hcl.out
  simp only [Act.put, nm1, nm2, nm3, i64_w]
  refine wpK_ops rfl (fun w1 hu => ?_) ?_
  · have hcl := (spec_l01Minus.calls K a0 t61 t62 t83 t84 t86 t87 w1  A88.out)
    clear hu
    replace hcl := Aside0.mk hcl
    go_simp
    exact hcl.out
  simp only [Act.put, nm1, nm2, nm3, i64_w]
  refine wpK_ops rfl (fun w1 hu => ?_) ?_
  · clear hu
    go_simp
    first | done | rfl
  simp only [Act.put, nm1, nm2, nm3, i64_w]
  refine wpK_nil ?_
  intro w89 hu hap
  simp only [List.drop_succ_cons, List.drop_zero]
  replace hu := (Up.refl _).drew.trans hu
  clear hap
  have hu90 := Aside0.mk hu
  clear hu
  have hB0 := (hb59.up (((((hu67.out.trans hu70.out).trans hu73.out).sto (Nat.le_trans (hu67.out.size) lbb68.out) hs75.out).sto (Nat.le_trans ((Nat.le_trans (hu67.out.size) hu70.out.size)) lbb71.out) hs79.out).trans hu90.out))
  have cl0 := hB0.cell (o := 4) rfl
  have fr0 := hB0.free 4
  have cl1 := hB0.cell (o := 5) rfl
  have fr1 := hB0.free 5
  refine step_store (b := b54) (cs' := [.int .i64 t30, .int .i64 t42, .int .i64 t31, .int .i64 t43, .int .i64 t86, .int .i64 t87]) (T := 30) (W' := ((w89.setCell ⟨b54, 4, none⟩ (.int .i64 t86)).setCell ⟨b54, 5, none⟩ (.int .i64 t87))) rfl rfl (by first | (go_simp; done) | (go_simp; rfl)) (((Sto.refl _ _).setCell 4 _).setCell 5 _) (((hB0).setCell 4 _).setCell 5 _) ?_
  clear hB0 cl0 fr0 cl1 fr1
  intro w91 hs hb93
  have hs92 := Aside0.mk hs
  clear hs
  have h94 := (h81.up hu90.out).sto hs92.out (Ne.symm (Nat.ne_of_lt (Nat.lt_of_lt_of_le (Nat.lt_of_lt_of_le ltb54.out ((Nat.le_trans ((Nat.le_of_eq hs58.out.size.symm)) hu67.out.size))) lbb68.out)))
  have h95 := (hb80.up hu90.out).sto hs92.out (Ne.symm (Nat.ne_of_lt (Nat.lt_of_lt_of_le (Nat.lt_of_lt_of_le ltb54.out ((Nat.le_trans ((Nat.le_trans ((Nat.le_of_eq hs58.out.size.symm)) hu67.out.size)) hu70.out.size))) lbb71.out)))
  refine wpList_nil ?_
  (try simp only [Exit.then, Exit.inBlock, ↓reduceIte, Nat.reduceEqDiff])
  refine hK82 _ _ ?_
  refine wp_seq_k (fun K96 hK96 => ?_)
  refine wp_region_lit ?_
  have cl0 := hb93.cell (o := 0) rfl
  have cl1 := hb93.cell (o := 1) rfl
  have cl2 := hb93.cell (o := 2) rfl
  have cl3 := hb93.cell (o := 3) rfl
  have cl4 := hb93.cell (o := 4) rfl
  have cl5 := hb93.cell (o := 5) rfl
  refine wpList_plain rfl (fun Ko hKo => ?_)
  go_simp
  refine hKo _ _ ?_
  clear hKo Ko
  clear cl0 cl1 cl2 cl3 cl4 cl5
  try simp only [Act.put, nm1, nm2, nm3, i64_w]
  have hB0 := (hb5.up (((((((((((((((((((hu13.out.trans hu16.out).sto (Nat.le_trans (hu13.out.size) lbb14.out) hs18.out).trans hu24.out).trans hu28.out).trans hu34.out).trans hu37.out).sto (Nat.le_trans ((Nat.le_trans ((Nat.le_trans ((Nat.le_trans ((Nat.le_trans ((Nat.le_trans (hu13.out.size) hu16.out.size)) (Nat.le_of_eq hs18.out.size.symm))) hu24.out.size)) hu28.out.size)) hu34.out.size)) lbb35.out) hs39.out).trans hu46.out).trans hu49.out).sto (Nat.le_trans ((Nat.le_trans ((Nat.le_trans ((Nat.le_trans ((Nat.le_trans ((Nat.le_trans ((Nat.le_trans ((Nat.le_trans ((Nat.le_trans (hu13.out.size) hu16.out.size)) (Nat.le_of_eq hs18.out.size.symm))) hu24.out.size)) hu28.out.size)) hu34.out.size)) hu37.out.size)) (Nat.le_of_eq hs39.out.size.symm))) hu46.out.size)) lbb47.out) hs51.out).trans hu56.out).sto (Nat.le_trans ((Nat.le_trans ((Nat.le_trans ((Nat.le_trans ((Nat.le_trans ((Nat.le_trans ((Nat.le_trans ((Nat.le_trans ((Nat.le_trans ((Nat.le_trans ((Nat.le_trans (hu13.out.size) hu16.out.size)) (Nat.le_of_eq hs18.out.size.symm))) hu24.out.size)) hu28.out.size)) hu34.out.size)) hu37.out.size)) (Nat.le_of_eq hs39.out.size.symm))) hu46.out.size)) hu49.out.size)) (Nat.le_of_eq hs51.out.size.symm))) lbb54.out) hs58.out).trans hu67.out).trans hu70.out).trans hu73.out).sto (Nat.le_trans ((Nat.le_trans ((Nat.le_trans ((Nat.le_trans ((Nat.le_trans ((Nat.le_trans ((Nat.le_trans ((Nat.le_trans ((Nat.le_trans ((Nat.le_trans ((Nat.le_trans ((Nat.le_trans ((Nat.le_trans ((Nat.le_trans (hu13.out.size) hu16.out.size)) (Nat.le_of_eq hs18.out.size.symm))) hu24.out.size)) hu28.out.size)) hu34.out.size)) hu37.out.size)) (Nat.le_of_eq hs39.out.size.symm))) hu46.out.size)) hu49.out.size)) (Nat.le_of_eq hs51.out.size.symm))) hu56.out.size)) (Nat.le_of_eq hs58.out.size.symm))) hu67.out.size)) lbb68.out) hs75.out).sto (Nat.le_trans ((Nat.le_trans ((Nat.le_trans ((Nat.le_trans ((Nat.le_trans ((Nat.le_trans ((Nat.le_trans ((Nat.le_trans ((Nat.le_trans ((Nat.le_trans ((Nat.le_trans ((Nat.le_trans ((Nat.le_trans ((Nat.le_trans ((Nat.le_trans (hu13.out.size) hu16.out.size)) (Nat.le_of_eq hs18.out.size.symm))) hu24.out.size)) hu28.out.size)) hu34.out.size)) hu37.out.size)) (Nat.le_of_eq hs39.out.size.symm))) hu46.out.size)) hu49.out.size)) (Nat.le_of_eq hs51.out.size.symm))) hu56.out.size)) (Nat.le_of_eq hs58.out.size.symm))) hu67.out.size)) hu70.out.size)) lbb71.out) hs79.out).trans hu90.out).sto (Nat.le_trans ((Nat.le_trans ((Nat.le_trans ((Nat.le_trans ((Nat.le_trans ((Nat.le_trans ((Nat.le_trans ((Nat.le_trans ((Nat.le_trans ((Nat.le_trans ((Nat.le_trans (hu13.out.size) hu16.out.size)) (Nat.le_of_eq hs18.out.size.symm))) hu24.out.size)) hu28.out.size)) hu34.out.size)) hu37.out.size)) (Nat.le_of_eq hs39.out.size.symm))) hu46.out.size)) hu49.out.size)) (Nat.le_of_eq hs51.out.size.symm))) lbb54.out) hs92.out))
  have cl0 := hB0.cell (o := 0) rfl
  have fr0 := hB0.free 0
  have cl1 := hB0.cell (o := 1) rfl
  have fr1 := hB0.free 1
  have cl2 := hB0.cell (o := 2) rfl
  have fr2 := hB0.free 2
  have cl3 := hB0.cell (o := 3) rfl
  have fr3 := hB0.free 3
  have cl4 := hB0.cell (o := 4) rfl
  have fr4 := hB0.free 4
  have cl5 := hB0.cell (o := 5) rfl
  have fr5 := hB0.free 5
  refine step_store (b := b5) (cs' := [.int .i64 t30, .int .i64 t42, .int .i64 t31, .int .i64 t43, .int .i64 t86, .int .i64 t87]) (T := 30) (W' := ((((((w91.setCell ⟨b5, 0, none⟩ (.int .i64 t30)).setCell ⟨b5, 1, none⟩ (.int .i64 t42)).setCell ⟨b5, 2, none⟩ (.int .i64 t31)).setCell ⟨b5, 3, none⟩ (.int .i64 t43)).setCell ⟨b5, 4, none⟩ (.int .i64 t86)).setCell ⟨b5, 5, none⟩ (.int .i64 t87))) rfl rfl (by first | (go_simp; done) | (go_simp; rfl)) (((((((Sto.refl _ _).setCell 0 _).setCell 1 _).setCell 2 _).setCell 3 _).setCell 4 _).setCell 5 _) (((((((hB0).setCell 0 _).setCell 1 _).setCell 2 _).setCell 3 _).setCell 4 _).setCell 5 _) ?_
  clear hB0 cl0 fr0 cl1 fr1 cl2 fr2 cl3 fr3 cl4 fr4 cl5 fr5
  intro w97 hs hb99
  have hs98 := Aside0.mk hs
  clear hs
  have h100 := (hb19.up ((((((((((((((((hu24.out.trans hu28.out).trans hu34.out).trans hu37.out).sto (Nat.le_trans ((Nat.le_trans ((Nat.le_trans (hu24.out.size) hu28.out.size)) hu34.out.size)) lbb35.out) hs39.out).trans hu46.out).trans hu49.out).sto (Nat.le_trans ((Nat.le_trans ((Nat.le_trans ((Nat.le_trans ((Nat.le_trans ((Nat.le_trans (hu24.out.size) hu28.out.size)) hu34.out.size)) hu37.out.size)) (Nat.le_of_eq hs39.out.size.symm))) hu46.out.size)) lbb47.out) hs51.out).trans hu56.out).sto (Nat.le_trans ((Nat.le_trans ((Nat.le_trans ((Nat.le_trans ((Nat.le_trans ((Nat.le_trans ((Nat.le_trans ((Nat.le_trans (hu24.out.size) hu28.out.size)) hu34.out.size)) hu37.out.size)) (Nat.le_of_eq hs39.out.size.symm))) hu46.out.size)) hu49.out.size)) (Nat.le_of_eq hs51.out.size.symm))) lbb54.out) hs58.out).trans hu67.out).trans hu70.out).trans hu73.out).sto (Nat.le_trans ((Nat.le_trans ((Nat.le_trans ((Nat.le_trans ((Nat.le_trans ((Nat.le_trans ((Nat.le_trans ((Nat.le_trans ((Nat.le_trans ((Nat.le_trans ((Nat.le_trans (hu24.out.size) hu28.out.size)) hu34.out.size)) hu37.out.size)) (Nat.le_of_eq hs39.out.size.symm))) hu46.out.size)) hu49.out.size)) (Nat.le_of_eq hs51.out.size.symm))) hu56.out.size)) (Nat.le_of_eq hs58.out.size.symm))) hu67.out.size)) lbb68.out) hs75.out).sto (Nat.le_trans ((Nat.le_trans ((Nat.le_trans ((Nat.le_trans ((Nat.le_trans ((Nat.le_trans ((Nat.le_trans ((Nat.le_trans ((Nat.le_trans ((Nat.le_trans ((Nat.le_trans ((Nat.le_trans (hu24.out.size) hu28.out.size)) hu34.out.size)) hu37.out.size)) (Nat.le_of_eq hs39.out.size.symm))) hu46.out.size)) hu49.out.size)) (Nat.le_of_eq hs51.out.size.symm))) hu56.out.size)) (Nat.le_of_eq hs58.out.size.symm))) hu67.out.size)) hu70.out.size)) lbb71.out) hs79.out).trans hu90.out).sto (Nat.le_trans ((Nat.le_trans ((Nat.le_trans ((Nat.le_trans ((Nat.le_trans ((Nat.le_trans ((Nat.le_trans ((Nat.le_trans (hu24.out.size) hu28.out.size)) hu34.out.size)) hu37.out.size)) (Nat.le_of_eq hs39.out.size.symm))) hu46.out.size)) hu49.out.size)) (Nat.le_of_eq hs51.out.size.symm))) lbb54.out) hs92.out)).sto hs98.out (Ne.symm (Nat.ne_of_lt (Nat.lt_of_lt_of_le (Nat.lt_of_lt_of_le ltb5.out (hu13.out.size)) lbb14.out)))
  have h101 := (hb40.up (((((((((((hu46.out.trans hu49.out).sto (Nat.le_trans (hu46.out.size) lbb47.out) hs51.out).trans hu56.out).sto (Nat.le_trans ((Nat.le_trans ((Nat.le_trans (hu46.out.size) hu49.out.size)) (Nat.le_of_eq hs51.out.size.symm))) lbb54.out) hs58.out).trans hu67.out).trans hu70.out).trans hu73.out).sto (Nat.le_trans ((Nat.le_trans ((Nat.le_trans ((Nat.le_trans ((Nat.le_trans ((Nat.le_trans (hu46.out.size) hu49.out.size)) (Nat.le_of_eq hs51.out.size.symm))) hu56.out.size)) (Nat.le_of_eq hs58.out.size.symm))) hu67.out.size)) lbb68.out) hs75.out).sto (Nat.le_trans ((Nat.le_trans ((Nat.le_trans ((Nat.le_trans ((Nat.le_trans ((Nat.le_trans ((Nat.le_trans (hu46.out.size) hu49.out.size)) (Nat.le_of_eq hs51.out.size.symm))) hu56.out.size)) (Nat.le_of_eq hs58.out.size.symm))) hu67.out.size)) hu70.out.size)) lbb71.out) hs79.out).trans hu90.out).sto (Nat.le_trans ((Nat.le_trans ((Nat.le_trans (hu46.out.size) hu49.out.size)) (Nat.le_of_eq hs51.out.size.symm))) lbb54.out) hs92.out)).sto hs98.out (Ne.symm (Nat.ne_of_lt (Nat.lt_of_lt_of_le (Nat.lt_of_lt_of_le ltb5.out ((Nat.le_trans ((Nat.le_trans ((Nat.le_trans ((Nat.le_trans ((Nat.le_trans (hu13.out.size) hu16.out.size)) (Nat.le_of_eq hs18.out.size.symm))) hu24.out.size)) hu28.out.size)) hu34.out.size))) lbb35.out)))
  have h102 := (hb52.up ((((((((hu56.out.sto (Nat.le_trans (Nat.le_refl _) lbb54.out) hs58.out).trans hu67.out).trans hu70.out).trans hu73.out).sto (Nat.le_trans ((Nat.le_trans ((Nat.le_trans (hu56.out.size) (Nat.le_of_eq hs58.out.size.symm))) hu67.out.size)) lbb68.out) hs75.out).sto (Nat.le_trans ((Nat.le_trans ((Nat.le_trans ((Nat.le_trans (hu56.out.size) (Nat.le_of_eq hs58.out.size.symm))) hu67.out.size)) hu70.out.size)) lbb71.out) hs79.out).trans hu90.out).sto (Nat.le_trans (Nat.le_refl _) lbb54.out) hs92.out)).sto hs98.out (Ne.symm (Nat.ne_of_lt (Nat.lt_of_lt_of_le (Nat.lt_of_lt_of_le ltb5.out ((Nat.le_trans ((Nat.le_trans ((Nat.le_trans ((Nat.le_trans ((Nat.le_trans ((Nat.le_trans ((Nat.le_trans ((Nat.le_trans (hu13.out.size) hu16.out.size)) (Nat.le_of_eq hs18.out.size.symm))) hu24.out.size)) hu28.out.size)) hu34.out.size)) hu37.out.size)) (Nat.le_of_eq hs39.out.size.symm))) hu46.out.size))) lbb47.out)))
  have h103 := hb93.sto hs98.out (Ne.symm (Nat.ne_of_lt (Nat.lt_of_lt_of_le (Nat.lt_of_lt_of_le ltb5.out ((Nat.le_trans ((Nat.le_trans ((Nat.le_trans ((Nat.le_trans ((Nat.le_trans ((Nat.le_trans ((Nat.le_trans ((Nat.le_trans ((Nat.le_trans ((Nat.le_trans (hu13.out.size) hu16.out.size)) (Nat.le_of_eq hs18.out.size.symm))) hu24.out.size)) hu28.out.size)) hu34.out.size)) hu37.out.size)) (Nat.le_of_eq hs39.out.size.symm))) hu46.out.size)) hu49.out.size)) (Nat.le_of_eq hs51.out.size.symm)))) lbb54.out)))
  have h104 := h94.sto hs98.out (Ne.symm (Nat.ne_of_lt (Nat.lt_of_lt_of_le (Nat.lt_of_lt_of_le ltb5.out ((Nat.le_trans ((Nat.le_trans ((Nat.le_trans ((Nat.le_trans ((Nat.le_trans ((Nat.le_trans ((Nat.le_trans ((Nat.le_trans ((Nat.le_trans ((Nat.le_trans ((Nat.le_trans ((Nat.le_trans ((Nat.le_trans (hu13.out.size) hu16.out.size)) (Nat.le_of_eq hs18.out.size.symm))) hu24.out.size)) hu28.out.size)) hu34.out.size)) hu37.out.size)) (Nat.le_of_eq hs39.out.size.symm))) hu46.out.size)) hu49.out.size)) (Nat.le_of_eq hs51.out.size.symm))) hu56.out.size)) (Nat.le_of_eq hs58.out.size.symm))) hu67.out.size))) lbb68.out)))
  have h105 := h95.sto hs98.out (Ne.symm (Nat.ne_of_lt (Nat.lt_of_lt_of_le (Nat.lt_of_lt_of_le ltb5.out ((Nat.le_trans ((Nat.le_trans ((Nat.le_trans ((Nat.le_trans ((Nat.le_trans ((Nat.le_trans ((Nat.le_trans ((Nat.le_trans ((Nat.le_trans ((Nat.le_trans ((Nat.le_trans ((Nat.le_trans ((Nat.le_trans ((Nat.le_trans (hu13.out.size) hu16.out.size)) (Nat.le_of_eq hs18.out.size.symm))) hu24.out.size)) hu28.out.size)) hu34.out.size)) hu37.out.size)) (Nat.le_of_eq hs39.out.size.symm))) hu46.out.size)) hu49.out.size)) (Nat.le_of_eq hs51.out.size.symm))) hu56.out.size)) (Nat.le_of_eq hs58.out.size.symm))) hu67.out.size)) hu70.out.size))) lbb71.out)))
  refine wpList_nil ?_
  (try simp only [Exit.then, Exit.inBlock, ↓reduceIte, Nat.reduceEqDiff])
  refine hK96 _ _ ?_
  refine wp_ret ?_
  (try simp only [Exit.then, Exit.inBlock, ↓reduceIte, Nat.reduceEqDiff])
  refine hQf _ _ _ ?_
  have cr0 := hb99.cell (o := 0) rfl
  have cr1 := hb99.cell (o := 1) rfl
  have cr2 := hb99.cell (o := 2) rfl
  have cr3 := hb99.cell (o := 3) rfl
  have cr4 := hb99.cell (o := 4) rfl
  have cr5 := hb99.cell (o := 5) rfl
  exact bodyPost_ret (v := .agg #[.int .i64 t30, .int .i64 t42, .int .i64 t31, .int .i64 t43, .int .i64 t86, .int .i64 t87]) (by first | rfl | (simp [results, Try.results79, go_sem, cr0, cr1, cr2, cr3, cr4, cr5]; done) | (simp [results, Try.results79, go_sem, cr0, cr1, cr2, cr3, cr4, cr5]; rfl)) rfl ⟨rfl, ((((((((((((((((((((((hu4.out.trans hu7.out).trans hu13.out).trans hu16.out).sto (Nat.le_trans ((Nat.le_trans ((Nat.le_trans (hu4.out.size) hu7.out.size)) hu13.out.size)) lbb14.out) hs18.out).trans hu24.out).trans hu28.out).trans hu34.out).trans hu37.out).sto (Nat.le_trans ((Nat.le_trans ((Nat.le_trans ((Nat.le_trans ((Nat.le_trans ((Nat.le_trans ((Nat.le_trans ((Nat.le_trans (hu4.out.size) hu7.out.size)) hu13.out.size)) hu16.out.size)) (Nat.le_of_eq hs18.out.size.symm))) hu24.out.size)) hu28.out.size)) hu34.out.size)) lbb35.out) hs39.out).trans hu46.out).trans hu49.out).sto (Nat.le_trans ((Nat.le_trans ((Nat.le_trans ((Nat.le_trans ((Nat.le_trans ((Nat.le_trans ((Nat.le_trans ((Nat.le_trans ((Nat.le_trans ((Nat.le_trans ((Nat.le_trans (hu4.out.size) hu7.out.size)) hu13.out.size)) hu16.out.size)) (Nat.le_of_eq hs18.out.size.symm))) hu24.out.size)) hu28.out.size)) hu34.out.size)) hu37.out.size)) (Nat.le_of_eq hs39.out.size.symm))) hu46.out.size)) lbb47.out) hs51.out).trans hu56.out).sto (Nat.le_trans ((Nat.le_trans ((Nat.le_trans ((Nat.le_trans ((Nat.le_trans ((Nat.le_trans ((Nat.le_trans ((Nat.le_trans ((Nat.le_trans ((Nat.le_trans ((Nat.le_trans ((Nat.le_trans ((Nat.le_trans (hu4.out.size) hu7.out.size)) hu13.out.size)) hu16.out.size)) (Nat.le_of_eq hs18.out.size.symm))) hu24.out.size)) hu28.out.size)) hu34.out.size)) hu37.out.size)) (Nat.le_of_eq hs39.out.size.symm))) hu46.out.size)) hu49.out.size)) (Nat.le_of_eq hs51.out.size.symm))) lbb54.out) hs58.out).trans hu67.out).trans hu70.out).trans hu73.out).sto (Nat.le_trans ((Nat.le_trans ((Nat.le_trans ((Nat.le_trans ((Nat.le_trans ((Nat.le_trans ((Nat.le_trans ((Nat.le_trans ((Nat.le_trans ((Nat.le_trans ((Nat.le_trans ((Nat.le_trans ((Nat.le_trans ((Nat.le_trans ((Nat.le_trans ((Nat.le_trans (hu4.out.size) hu7.out.size)) hu13.out.size)) hu16.out.size)) (Nat.le_of_eq hs18.out.size.symm))) hu24.out.size)) hu28.out.size)) hu34.out.size)) hu37.out.size)) (Nat.le_of_eq hs39.out.size.symm))) hu46.out.size)) hu49.out.size)) (Nat.le_of_eq hs51.out.size.symm))) hu56.out.size)) (Nat.le_of_eq hs58.out.size.symm))) hu67.out.size)) lbb68.out) hs75.out).sto (Nat.le_trans ((Nat.le_trans ((Nat.le_trans ((Nat.le_trans ((Nat.le_trans ((Nat.le_trans ((Nat.le_trans ((Nat.le_trans ((Nat.le_trans ((Nat.le_trans ((Nat.le_trans ((Nat.le_trans ((Nat.le_trans ((Nat.le_trans ((Nat.le_trans ((Nat.le_trans ((Nat.le_trans (hu4.out.size) hu7.out.size)) hu13.out.size)) hu16.out.size)) (Nat.le_of_eq hs18.out.size.symm))) hu24.out.size)) hu28.out.size)) hu34.out.size)) hu37.out.size)) (Nat.le_of_eq hs39.out.size.symm))) hu46.out.size)) hu49.out.size)) (Nat.le_of_eq hs51.out.size.symm))) hu56.out.size)) (Nat.le_of_eq hs58.out.size.symm))) hu67.out.size)) hu70.out.size)) lbb71.out) hs79.out).trans hu90.out).sto (Nat.le_trans ((Nat.le_trans ((Nat.le_trans ((Nat.le_trans ((Nat.le_trans ((Nat.le_trans ((Nat.le_trans ((Nat.le_trans ((Nat.le_trans ((Nat.le_trans ((Nat.le_trans ((Nat.le_trans ((Nat.le_trans (hu4.out.size) hu7.out.size)) hu13.out.size)) hu16.out.size)) (Nat.le_of_eq hs18.out.size.symm))) hu24.out.size)) hu28.out.size)) hu34.out.size)) hu37.out.size)) (Nat.le_of_eq hs39.out.size.symm))) hu46.out.size)) hu49.out.size)) (Nat.le_of_eq hs51.out.size.symm))) lbb54.out) hs92.out).sto (Nat.le_trans (hu4.out.size) lbb5.out) hs98.out)⟩

end Go.Proofs.Ytbibgeoohpgaeaa
