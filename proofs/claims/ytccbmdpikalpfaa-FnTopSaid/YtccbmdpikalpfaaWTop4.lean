/- The walks: each of these functions of the program computes what its plain function says: laws_FnTop. -/
import Derived.Test.YtccbmdpikalpfaaProg
import Derived.Test.YtccbmdpikalpfaaD1
import Derived.WalkKit
import Derived.KernelRfl
import Derived.BigQuiet
import Derived.Deep.LoopGhost
import Derived.Laws.StructEq
import Derived.Test.YtccbmdpikalpfaaWTop3
namespace Go.Proofs.Ytccbmdpikalpfaa
open Go Go.RowKit
attribute [local go_sem] Oper.quiet Oper.quietAt Oper.quietUpon
attribute [local irreducible] wpList
set_option linter.unusedVariables false
set_option linter.unusedSimpArgs false
attribute [local go_sem] eqT30

set_option maxHeartbeats 40000000 in
set_option maxRecDepth 100000 in
theorem laws_FnTop.calls (K : Nat) (a0_A : Option Addr) (a0_c : Nat) (a0 : List (Int)) (r0 : Bool) (w : World) (ha0 : Rd eU8 w a0_A a0) (h : laws_FnTop.f K a0 = some (r0)) :
    Calls Try.prog 3 #[.slice a0_A a0.length a0_c] w fun e w' => e = .returned (.bool r0) ∧ Up w w' := by
 have H : (((laws_big.f K a0).bind fun t4 => (if t4 = true then some true else ((laws_roll.f K a0 70).bind fun (t12, t13) => ((laws_dice_below.f K a0 t12 t13 4).bind fun (t22, t23, t24) => ((idx ([5, 7, 11, 13]) t22).bind fun t30 => ((laws_dice_below.f K a0 t23 t24 t30).bind fun (t36, t37, t38) => ((laws_dice_below.f K a0 t37 t38 t30).bind fun (t44, t45, t46) => ((laws_dice_below.f K a0 t45 t46 t30).bind fun (t52, t53, t54) => ((laws_dice_below.f K a0 t53 t54 t30).bind fun (t60, t61, t62) => ((laws_dice_below.f K a0 t61 t62 t30).bind fun (t68, t69, t70) => ((laws_dice_below.f K a0 t69 t70 t30).bind fun (t76, t77, t78) => (laws_FnTop.l0 K a0 t30 t36 t44 t52 t60 t68 t76 K 0 t77 t78)))))))))))) : Option (Bool)) = some (r0) := h
 clear h
 replace H := Option.bind_eq_some_iff.mp H
 obtain ⟨t4, A5, H⟩ := H
 replace A5 := Aside0.mk A5
 try dsimp only at H
 go_enter Try.func3, Try.ntmps3
 refine wp_hide (fun Qf hQf => ?_)
 refine wp_seq_k (fun K1 hK1 => ?_)
 refine wp_region_lit ?_
 refine wpList_plain rfl (fun Ko hKo => ?_)
 go_simp
 refine hKo _ _ ?_
 clear hKo Ko
 try simp only [Act.put, nm1, nm2, nm3, i64_w]
 refine wpList_nil ?_
 (try simp only [Exit.then, Exit.inBlock, ↓reduceIte, Nat.reduceEqDiff])
 refine hK1 _ _ ?_
 refine wp_seq_k (fun K2 hK2 => ?_)
 refine wp_seq_k (fun K3 hK3 => ?_)
 refine wp_region_lit ?_
 refine wpList_plain rfl (fun Ko hKo => ?_)
 go_simp
 refine hKo _ _ ?_
 clear hKo Ko
 try simp only [Act.put, nm1, nm2, nm3, i64_w]
 refine step_call (wanted_none rfl) (by first | (go_simp; done) | (go_simp; rfl)) (laws_big.calls K a0_A a0_c a0 t4 w ha0 A5.out) ?_
 rintro e w6 ⟨rfl, hu⟩
 have hu7 := Aside0.mk hu
 clear hu
 refine ⟨_, rfl, ?_⟩
 simp only [Act.put, nm1, nm2, nm3, i64_w]
 refine wpList_nil ?_
 (try simp only [Exit.then, Exit.inBlock, ↓reduceIte, Nat.reduceEqDiff])
 refine hK3 _ _ ?_
 by_cases c8 : (t4) = true
 ·
  rw [if_pos c8] at H
  subst c8
  obtain rfl := Option.some.inj H
  refine wp_cond_true rfl ?_
  refine wp_seq_k (fun K9 hK9 => ?_)
  refine wp_region_lit ?_
  refine wpList_plain rfl (fun Ko hKo => ?_)
  go_simp
  refine hKo _ _ ?_
  clear hKo Ko
  try simp only [Act.put, nm1, nm2, nm3, i64_w]
  refine wpList_nil ?_
  (try simp only [Exit.then, Exit.inBlock, ↓reduceIte, Nat.reduceEqDiff])
  refine hK9 _ _ ?_
  refine wp_ret ?_
  (try simp only [Exit.then, Exit.inBlock, ↓reduceIte, Nat.reduceEqDiff])
  refine hQf _ _ _ ?_
  exact bodyPost_ret (v := .bool true) (by first | rfl | (simp [results, Try.results3, go_sem]; done) | (simp [results, Try.results3, go_sem]; rfl)) rfl ⟨rfl, hu7.out⟩
 ·
  rw [if_neg c8] at H
  replace c8 := Bool.eq_false_iff.mpr c8
  subst c8
  replace H := Option.bind_eq_some_iff.mp H
  obtain ⟨⟨t12, t13⟩, A14, H⟩ := H
  replace A14 := Aside0.mk A14
  try dsimp only at H
  replace H := Option.bind_eq_some_iff.mp H
  obtain ⟨⟨t22, t23, t24⟩, A25, H⟩ := H
  replace A25 := Aside0.mk A25
  try dsimp only at H
  replace H := Option.bind_eq_some_iff.mp H
  obtain ⟨t30, A31, H⟩ := H
  replace A31 := Aside0.mk A31
  try dsimp only at H
  replace H := Option.bind_eq_some_iff.mp H
  obtain ⟨⟨t36, t37, t38⟩, A39, H⟩ := H
  replace A39 := Aside0.mk A39
  try dsimp only at H
  replace H := Option.bind_eq_some_iff.mp H
  obtain ⟨⟨t44, t45, t46⟩, A47, H⟩ := H
  replace A47 := Aside0.mk A47
  try dsimp only at H
  replace H := Option.bind_eq_some_iff.mp H
  obtain ⟨⟨t52, t53, t54⟩, A55, H⟩ := H
  replace A55 := Aside0.mk A55
  try dsimp only at H
  replace H := Option.bind_eq_some_iff.mp H
  obtain ⟨⟨t60, t61, t62⟩, A63, H⟩ := H
  replace A63 := Aside0.mk A63
  try dsimp only at H
  replace H := Option.bind_eq_some_iff.mp H
  obtain ⟨⟨t68, t69, t70⟩, A71, H⟩ := H
  replace A71 := Aside0.mk A71
  try dsimp only at H
  replace H := Option.bind_eq_some_iff.mp H
  obtain ⟨⟨t76, t77, t78⟩, A79, H⟩ := H
  replace A79 := Aside0.mk A79
  try dsimp only at H
  refine wp_cond_false rfl ?_
  refine wp_skip ?_
  (try simp only [Exit.then, Exit.inBlock, ↓reduceIte, Nat.reduceEqDiff])
  refine hK2 _ _ ?_
  refine wp_seq_k (fun K10 hK10 => ?_)
  refine wp_region_lit ?_
  refine wpList_plain rfl (fun Ko hKo => ?_)
  go_simp
  refine hKo _ _ ?_
  clear hKo Ko
  try simp only [Act.put, nm1, nm2, nm3, i64_w]
  refine step_call (wanted_none rfl) (by first | (go_simp; done) | (go_simp; rfl)) (laws_roll.calls K a0_A a0_c a0 70 t12 t13 w6 (ha0.up hu7.out) A14.out) ?_
  rintro e w15 ⟨b11, rfl, hb11, lb, hu⟩
  have lbb11 := lb
  have ltb11 := Aside0.mk hb11.lt
  clear lb
  have hu16 := Aside0.mk hu
  clear hu
  refine ⟨_, rfl, ?_⟩
  simp only [Act.put, nm1, nm2, nm3, i64_w]
  refine wpList_plain rfl (fun Ko hKo => ?_)
  go_simp
  refine hKo _ _ ?_
  clear hKo Ko
  try simp only [Act.put, nm1, nm2, nm3, i64_w]
  refine wpList_nil ?_
  (try simp only [Exit.then, Exit.inBlock, ↓reduceIte, Nat.reduceEqDiff])
  refine hK10 _ _ ?_
  as_aux_lemma =>
  refine wp_seq_k (fun K17 hK17 => ?_)
  refine wp_region_lit ?_
  refine step_new (cs := [.int .i64 5, .int .i64 7, .int .i64 11, .int .i64 13]) (T := 2) (f := fun b => .slice (some ⟨b, 0, none⟩) 4 4) rfl (by first | (go_simp; done) | (go_simp; rfl)) ?_
  intro b18 w19 hu lb hb18
  simp only [Act.put, nm1, nm2, nm3, i64_w]
  have lbb18 := Aside0.mk lb
  have ltb18 := Aside0.mk hb18.lt
  clear lb
  have hu20 := Aside0.mk hu
  clear hu
  refine wpList_plain rfl (fun Ko hKo => ?_)
  go_simp
  refine hKo _ _ ?_
  clear hKo Ko
  try simp only [Act.put, nm1, nm2, nm3, i64_w]
  refine wpList_nil ?_
  (try simp only [Exit.then, Exit.inBlock, ↓reduceIte, Nat.reduceEqDiff])
  refine hK17 _ _ ?_
  refine wp_seq_k (fun K21 hK21 => ?_)
  refine wp_region_lit ?_
  refine wpList_plain rfl (fun Ko hKo => ?_)
  go_simp
  refine hKo _ _ ?_
  clear hKo Ko
  try simp only [Act.put, nm1, nm2, nm3, i64_w]
  refine wpList_plain rfl (fun Ko hKo => ?_)
  go_simp
  refine hKo _ _ ?_
  clear hKo Ko
  try simp only [Act.put, nm1, nm2, nm3, i64_w]
  refine step_call (wanted_none rfl) (by first | (go_simp; done) | (go_simp; rfl)) (laws_dice_below.calls K b11 a0_A a0_c a0 t12 t13 4 t22 t23 t24 w19 (hb11.up hu20.out) (ha0.up ((hu7.out.trans hu16.out).trans hu20.out)) (fun k hk hp => Nat.ne_of_lt (Nat.lt_of_lt_of_le ((ha0.up hu7.out).blk_lt hp k hk) lbb11.out)) A25.out) ?_
  rintro e w26 ⟨rfl, h27, hs⟩
  have hs28 := Aside0.mk hs
  clear hs
  have h29 := hb18.grow hs28.out (fun k hk e => (Nat.ne_of_lt (Nat.lt_of_lt_of_le ltb11.out lbb18.out)) ((Option.some.inj hk).trans e))
  refine ⟨_, rfl, ?_⟩
  simp only [Act.put, nm1, nm2, nm3, i64_w]
  refine step_index eI (T := 2) (wanted_none rfl) rfl (by kernel_rfl) (by kernel_rfl) rfl rfl rfl (Rd.of_blk (E := eI) (xs := [5, 7, 11, 13]) (o := 0) h29 (by simp) (fun j u hu => by rcases j with _ | _ | _ | _ | j <;> simp_all [Enc.flat, eI])) A31.out ?_
  intro ad32 hat he
  have he33 := Aside0.mk he
  have hat34 := Aside0.mk hat
  clear he hat
  simp only [Act.put, nm1, nm2, nm3, i64_w]
  have cl0 := he33.out 0 _ rfl
  rw [addr_add0] at cl0
  refine wpList_plain rfl (fun Ko hKo => ?_)
  go_simp
  refine hKo _ _ ?_
  clear hKo Ko
  clear cl0
  try simp only [Act.put, nm1, nm2, nm3, i64_w]
  refine wpList_plain rfl (fun Ko hKo => ?_)
  go_simp
  refine hKo _ _ ?_
  clear hKo Ko
  try simp only [Act.put, nm1, nm2, nm3, i64_w]
  refine wpList_nil ?_
  (try simp only [Exit.then, Exit.inBlock, ↓reduceIte, Nat.reduceEqDiff])
  refine hK21 _ _ ?_
  refine wp_seq_k (fun K35 hK35 => ?_)
  refine wp_region_lit ?_
  refine wpList_plain rfl (fun Ko hKo => ?_)
  go_simp
  refine hKo _ _ ?_
  clear hKo Ko
  try simp only [Act.put, nm1, nm2, nm3, i64_w]
  refine wpList_plain rfl (fun Ko hKo => ?_)
  go_simp
  refine hKo _ _ ?_
  clear hKo Ko
  try simp only [Act.put, nm1, nm2, nm3, i64_w]
  refine step_call (wanted_none rfl) (by first | (go_simp; done) | (go_simp; rfl)) (laws_dice_below.calls K b11 a0_A a0_c a0 t23 t24 t30 t36 t37 t38 w26 h27 (ha0.up (((hu7.out.trans hu16.out).trans hu20.out).grow hs28.out (fun k hk => Nat.le_trans (hu7.out.size) ((fun k hk => Nat.le_trans lbb11.out (Nat.le_of_eq (Option.some.inj hk))) k hk)))) (fun k hk hp => Nat.ne_of_lt (Nat.lt_of_lt_of_le ((ha0.up hu7.out).blk_lt hp k hk) lbb11.out)) A39.out) ?_
  rintro e w40 ⟨rfl, h41, hs⟩
  have hs42 := Aside0.mk hs
  clear hs
  have h43 := h29.grow hs42.out (fun k hk e => (Nat.ne_of_lt (Nat.lt_of_lt_of_le ltb11.out lbb18.out)) ((Option.some.inj hk).trans e))
  refine ⟨_, rfl, ?_⟩
  simp only [Act.put, nm1, nm2, nm3, i64_w]
  refine wpList_plain rfl (fun Ko hKo => ?_)
  go_simp
  refine hKo _ _ ?_
  clear hKo Ko
  try simp only [Act.put, nm1, nm2, nm3, i64_w]
  refine wpList_plain rfl (fun Ko hKo => ?_)
  go_simp
  refine hKo _ _ ?_
  clear hKo Ko
  try simp only [Act.put, nm1, nm2, nm3, i64_w]
  refine step_call (wanted_none rfl) (by first | (go_simp; done) | (go_simp; rfl)) (laws_dice_below.calls K b11 a0_A a0_c a0 t37 t38 t30 t44 t45 t46 w40 h41 (ha0.up ((((hu7.out.trans hu16.out).trans hu20.out).grow hs28.out (fun k hk => Nat.le_trans (hu7.out.size) ((fun k hk => Nat.le_trans lbb11.out (Nat.le_of_eq (Option.some.inj hk))) k hk))).grow hs42.out (fun k hk => Nat.le_trans (hu7.out.size) ((fun k hk => Nat.le_trans lbb11.out (Nat.le_of_eq (Option.some.inj hk))) k hk)))) (fun k hk hp => Nat.ne_of_lt (Nat.lt_of_lt_of_le ((ha0.up hu7.out).blk_lt hp k hk) lbb11.out)) A47.out) ?_
  rintro e w48 ⟨rfl, h49, hs⟩
  have hs50 := Aside0.mk hs
  clear hs
  have h51 := h43.grow hs50.out (fun k hk e => (Nat.ne_of_lt (Nat.lt_of_lt_of_le ltb11.out lbb18.out)) ((Option.some.inj hk).trans e))
  refine ⟨_, rfl, ?_⟩
  simp only [Act.put, nm1, nm2, nm3, i64_w]
  refine wpList_plain rfl (fun Ko hKo => ?_)
  go_simp
  refine hKo _ _ ?_
  clear hKo Ko
  try simp only [Act.put, nm1, nm2, nm3, i64_w]
  refine wpList_plain rfl (fun Ko hKo => ?_)
  go_simp
  refine hKo _ _ ?_
  clear hKo Ko
  try simp only [Act.put, nm1, nm2, nm3, i64_w]
  refine wpList_plain rfl (fun Ko hKo => ?_)
  go_simp
  refine hKo _ _ ?_
  clear hKo Ko
  try simp only [Act.put, nm1, nm2, nm3, i64_w]
  refine step_call (wanted_none rfl) (by first | (go_simp; done) | (go_simp; rfl)) (laws_dice_below.calls K b11 a0_A a0_c a0 t45 t46 t30 t52 t53 t54 w48 h49 (ha0.up (((((hu7.out.trans hu16.out).trans hu20.out).grow hs28.out (fun k hk => Nat.le_trans (hu7.out.size) ((fun k hk => Nat.le_trans lbb11.out (Nat.le_of_eq (Option.some.inj hk))) k hk))).grow hs42.out (fun k hk => Nat.le_trans (hu7.out.size) ((fun k hk => Nat.le_trans lbb11.out (Nat.le_of_eq (Option.some.inj hk))) k hk))).grow hs50.out (fun k hk => Nat.le_trans (hu7.out.size) ((fun k hk => Nat.le_trans lbb11.out (Nat.le_of_eq (Option.some.inj hk))) k hk)))) (fun k hk hp => Nat.ne_of_lt (Nat.lt_of_lt_of_le ((ha0.up hu7.out).blk_lt hp k hk) lbb11.out)) A55.out) ?_
  rintro e w56 ⟨rfl, h57, hs⟩
  have hs58 := Aside0.mk hs
  clear hs
  have h59 := h51.grow hs58.out (fun k hk e => (Nat.ne_of_lt (Nat.lt_of_lt_of_le ltb11.out lbb18.out)) ((Option.some.inj hk).trans e))
  refine ⟨_, rfl, ?_⟩
  simp only [Act.put, nm1, nm2, nm3, i64_w]
  refine wpList_plain rfl (fun Ko hKo => ?_)
  go_simp
  refine hKo _ _ ?_
  clear hKo Ko
  try simp only [Act.put, nm1, nm2, nm3, i64_w]
  refine wpList_plain rfl (fun Ko hKo => ?_)
  go_simp
  refine hKo _ _ ?_
  clear hKo Ko
  try simp only [Act.put, nm1, nm2, nm3, i64_w]
  refine step_call (wanted_none rfl) (by first | (go_simp; done) | (go_simp; rfl)) (laws_dice_below.calls K b11 a0_A a0_c a0 t53 t54 t30 t60 t61 t62 w56 h57 (ha0.up ((((((hu7.out.trans hu16.out).trans hu20.out).grow hs28.out (fun k hk => Nat.le_trans (hu7.out.size) ((fun k hk => Nat.le_trans lbb11.out (Nat.le_of_eq (Option.some.inj hk))) k hk))).grow hs42.out (fun k hk => Nat.le_trans (hu7.out.size) ((fun k hk => Nat.le_trans lbb11.out (Nat.le_of_eq (Option.some.inj hk))) k hk))).grow hs50.out (fun k hk => Nat.le_trans (hu7.out.size) ((fun k hk => Nat.le_trans lbb11.out (Nat.le_of_eq (Option.some.inj hk))) k hk))).grow hs58.out (fun k hk => Nat.le_trans (hu7.out.size) ((fun k hk => Nat.le_trans lbb11.out (Nat.le_of_eq (Option.some.inj hk))) k hk)))) (fun k hk hp => Nat.ne_of_lt (Nat.lt_of_lt_of_le ((ha0.up hu7.out).blk_lt hp k hk) lbb11.out)) A63.out) ?_
  rintro e w64 ⟨rfl, h65, hs⟩
  have hs66 := Aside0.mk hs
  clear hs
  have h67 := h59.grow hs66.out (fun k hk e => (Nat.ne_of_lt (Nat.lt_of_lt_of_le ltb11.out lbb18.out)) ((Option.some.inj hk).trans e))
  refine ⟨_, rfl, ?_⟩
  simp only [Act.put, nm1, nm2, nm3, i64_w]
  refine wpList_plain rfl (fun Ko hKo => ?_)
  go_simp
  refine hKo _ _ ?_
  clear hKo Ko
  try simp only [Act.put, nm1, nm2, nm3, i64_w]
  refine wpList_plain rfl (fun Ko hKo => ?_)
  go_simp
  refine hKo _ _ ?_
  clear hKo Ko
  try simp only [Act.put, nm1, nm2, nm3, i64_w]
  refine wpList_plain rfl (fun Ko hKo => ?_)
  go_simp
  refine hKo _ _ ?_
  clear hKo Ko
  try simp only [Act.put, nm1, nm2, nm3, i64_w]
  refine step_call (wanted_none rfl) (by first | (go_simp; done) | (go_simp; rfl)) (laws_dice_below.calls K b11 a0_A a0_c a0 t61 t62 t30 t68 t69 t70 w64 h65 (ha0.up (((((((hu7.out.trans hu16.out).trans hu20.out).grow hs28.out (fun k hk => Nat.le_trans (hu7.out.size) ((fun k hk => Nat.le_trans lbb11.out (Nat.le_of_eq (Option.some.inj hk))) k hk))).grow hs42.out (fun k hk => Nat.le_trans (hu7.out.size) ((fun k hk => Nat.le_trans lbb11.out (Nat.le_of_eq (Option.some.inj hk))) k hk))).grow hs50.out (fun k hk => Nat.le_trans (hu7.out.size) ((fun k hk => Nat.le_trans lbb11.out (Nat.le_of_eq (Option.some.inj hk))) k hk))).grow hs58.out (fun k hk => Nat.le_trans (hu7.out.size) ((fun k hk => Nat.le_trans lbb11.out (Nat.le_of_eq (Option.some.inj hk))) k hk))).grow hs66.out (fun k hk => Nat.le_trans (hu7.out.size) ((fun k hk => Nat.le_trans lbb11.out (Nat.le_of_eq (Option.some.inj hk))) k hk)))) (fun k hk hp => Nat.ne_of_lt (Nat.lt_of_lt_of_le ((ha0.up hu7.out).blk_lt hp k hk) lbb11.out)) A71.out) ?_
  rintro e w72 ⟨rfl, h73, hs⟩
  have hs74 := Aside0.mk hs
  clear hs
  have h75 := h67.grow hs74.out (fun k hk e => (Nat.ne_of_lt (Nat.lt_of_lt_of_le ltb11.out lbb18.out)) ((Option.some.inj hk).trans e))
  refine ⟨_, rfl, ?_⟩
  simp only [Act.put, nm1, nm2, nm3, i64_w]
  refine wpList_plain rfl (fun Ko hKo => ?_)
  go_simp
  refine hKo _ _ ?_
  clear hKo Ko
  try simp only [Act.put, nm1, nm2, nm3, i64_w]
  refine wpList_plain rfl (fun Ko hKo => ?_)
  go_simp
  refine hKo _ _ ?_
  clear hKo Ko
  try simp only [Act.put, nm1, nm2, nm3, i64_w]
  refine step_call (wanted_none rfl) (by first | (go_simp; done) | (go_simp; rfl)) (laws_dice_below.calls K b11 a0_A a0_c a0 t69 t70 t30 t76 t77 t78 w72 h73 (ha0.up ((((((((hu7.out.trans hu16.out).trans hu20.out).grow hs28.out (fun k hk => Nat.le_trans (hu7.out.size) ((fun k hk => Nat.le_trans lbb11.out (Nat.le_of_eq (Option.some.inj hk))) k hk))).grow hs42.out (fun k hk => Nat.le_trans (hu7.out.size) ((fun k hk => Nat.le_trans lbb11.out (Nat.le_of_eq (Option.some.inj hk))) k hk))).grow hs50.out (fun k hk => Nat.le_trans (hu7.out.size) ((fun k hk => Nat.le_trans lbb11.out (Nat.le_of_eq (Option.some.inj hk))) k hk))).grow hs58.out (fun k hk => Nat.le_trans (hu7.out.size) ((fun k hk => Nat.le_trans lbb11.out (Nat.le_of_eq (Option.some.inj hk))) k hk))).grow hs66.out (fun k hk => Nat.le_trans (hu7.out.size) ((fun k hk => Nat.le_trans lbb11.out (Nat.le_of_eq (Option.some.inj hk))) k hk))).grow hs74.out (fun k hk => Nat.le_trans (hu7.out.size) ((fun k hk => Nat.le_trans lbb11.out (Nat.le_of_eq (Option.some.inj hk))) k hk)))) (fun k hk hp => Nat.ne_of_lt (Nat.lt_of_lt_of_le ((ha0.up hu7.out).blk_lt hp k hk) lbb11.out)) A79.out) ?_
  rintro e w80 ⟨rfl, h81, hs⟩
  have hs82 := Aside0.mk hs
  clear hs
  have h83 := h75.grow hs82.out (fun k hk e => (Nat.ne_of_lt (Nat.lt_of_lt_of_le ltb11.out lbb18.out)) ((Option.some.inj hk).trans e))
  refine ⟨_, rfl, ?_⟩
  simp only [Act.put, nm1, nm2, nm3, i64_w]
  refine wpList_plain rfl (fun Ko hKo => ?_)
  go_simp
  refine hKo _ _ ?_
  clear hKo Ko
  try simp only [Act.put, nm1, nm2, nm3, i64_w]
  refine step_new (cs := [.int .i64 0, .int .i64 0]) (T := 30) (f := fun b => .pointer (some ⟨b, 0, none⟩)) rfl (by first | (go_simp; done) | (go_simp; rfl)) ?_
  intro b84 w85 hu lb hb84
  simp only [Act.put, nm1, nm2, nm3, i64_w]
  have lbb84 := Aside0.mk lb
  have ltb84 := Aside0.mk hb84.lt
  clear lb
  have hu86 := Aside0.mk hu
  clear hu
  refine step_new (cs := [.int .i64 0, .int .i64 0]) (T := 30) (f := fun b => .pointer (some ⟨b, 0, none⟩)) rfl (by first | (go_simp; done) | (go_simp; rfl)) ?_
  intro b87 w88 hu lb hb87
  simp only [Act.put, nm1, nm2, nm3, i64_w]
  have lbb87 := Aside0.mk lb
  have ltb87 := Aside0.mk hb87.lt
  clear lb
  have hu89 := Aside0.mk hu
  clear hu
  refine step_new (cs := [.int .i64 0, .int .i64 0]) (T := 30) (f := fun b => .pointer (some ⟨b, 0, none⟩)) rfl (by first | (go_simp; done) | (go_simp; rfl)) ?_
  intro b90 w91 hu lb hb90
  simp only [Act.put, nm1, nm2, nm3, i64_w]
  have lbb90 := Aside0.mk lb
  have ltb90 := Aside0.mk hb90.lt
  clear lb
  have hu92 := Aside0.mk hu
  clear hu
  have hB0 := (hb84.up (hu89.out.trans hu92.out))
  have cl0 := hB0.cell (o := 0) rfl
  have fr0 := hB0.free 0
  have cl1 := hB0.cell (o := 1) rfl
  have fr1 := hB0.free 1
  refine step_store (b := b84) (cs' := [.int .i64 t36, .int .i64 t44]) (T := 30) (W' := ((w91.setCell ⟨b84, 0, none⟩ (.int .i64 t36)).setCell ⟨b84, 1, none⟩ (.int .i64 t44))) rfl rfl (by first | (go_simp; done) | (go_simp; rfl)) (((Sto.refl _ _).setCell 0 _).setCell 1 _) (((hB0).setCell 0 _).setCell 1 _) ?_
  clear hB0 cl0 fr0 cl1 fr1
  intro w93 hs hb95
  have hs94 := Aside0.mk hs
  clear hs
  have h96 := (hb87.up hu92.out).sto hs94.out (Ne.symm (Nat.ne_of_lt (Nat.lt_of_lt_of_le ltb84.out lbb87.out)))
  have h97 := hb90.sto hs94.out (Ne.symm (Nat.ne_of_lt (Nat.lt_of_lt_of_le (Nat.lt_of_lt_of_le ltb84.out (hu89.out.size)) lbb90.out)))
  have hB0 := h96
  have cl0 := hB0.cell (o := 0) rfl
  have fr0 := hB0.free 0
  have cl1 := hB0.cell (o := 1) rfl
  have fr1 := hB0.free 1
  refine step_store (b := b87) (cs' := [.int .i64 t52, .int .i64 t60]) (T := 30) (W' := ((w93.setCell ⟨b87, 0, none⟩ (.int .i64 t52)).setCell ⟨b87, 1, none⟩ (.int .i64 t60))) rfl rfl (by first | (go_simp; done) | (go_simp; rfl)) (((Sto.refl _ _).setCell 0 _).setCell 1 _) (((hB0).setCell 0 _).setCell 1 _) ?_
  clear hB0 cl0 fr0 cl1 fr1
  intro w98 hs hb100
  have hs99 := Aside0.mk hs
  clear hs
  have h101 := hb95.sto hs99.out (Nat.ne_of_lt (Nat.lt_of_lt_of_le ltb84.out lbb87.out))
  have h102 := h97.sto hs99.out (Ne.symm (Nat.ne_of_lt (Nat.lt_of_lt_of_le ltb87.out lbb90.out)))
  have hB0 := h102
  have cl0 := hB0.cell (o := 0) rfl
  have fr0 := hB0.free 0
  have cl1 := hB0.cell (o := 1) rfl
  have fr1 := hB0.free 1
  refine step_store (b := b90) (cs' := [.int .i64 t68, .int .i64 t76]) (T := 30) (W' := ((w98.setCell ⟨b90, 0, none⟩ (.int .i64 t68)).setCell ⟨b90, 1, none⟩ (.int .i64 t76))) rfl rfl (by first | (go_simp; done) | (go_simp; rfl)) (((Sto.refl _ _).setCell 0 _).setCell 1 _) (((hB0).setCell 0 _).setCell 1 _) ?_
  clear hB0 cl0 fr0 cl1 fr1
  intro w103 hs hb105
  have hs104 := Aside0.mk hs
  clear hs
  have h106 := h101.sto hs104.out (Nat.ne_of_lt (Nat.lt_of_lt_of_le (Nat.lt_of_lt_of_le ltb84.out (hu89.out.size)) lbb90.out))
  have h107 := hb100.sto hs104.out (Nat.ne_of_lt (Nat.lt_of_lt_of_le ltb87.out lbb90.out))
  refine wpList_nil ?_
  (try simp only [Exit.then, Exit.inBlock, ↓reduceIte, Nat.reduceEqDiff])
  refine hK35 _ _ ?_
  as_aux_lemma =>
  refine wp_seq_k (fun K108 hK108 => ?_)
  refine wp_seq_k (fun K109 hK109 => ?_)
  refine wp_region_lit ?_
  refine wpList_plain rfl (fun Ko hKo => ?_)
  go_simp
  refine hKo _ _ ?_
  clear hKo Ko
  try simp only [Act.put, nm1, nm2, nm3, i64_w]
  refine wpList_nil ?_
  (try simp only [Exit.then, Exit.inBlock, ↓reduceIte, Nat.reduceEqDiff])
  refine hK109 _ _ ?_
  refine wp_block ?_
  have HL116 := Aside0.mk H
  clear H
  go_loopg [9] K (fun kq v9 w' => ∃ (x110 : Int) (x111 : Int) (x112 : Int), v9 = .int .i64 x110 ∧ Aside0 (laws_FnTop.l0 K a0 t30 t36 t44 t52 t60 t68 t76 kq x110 x111 x112 = some (r0)) ∧ Aside0 (kq ≤ K) ∧ Aside0 (Up w6 w') ∧ Aside0 (w103.heap.size ≤ w'.heap.size) ∧ Blk w' b11 [.slice a0_A a0.length a0_c, .int .i64 x111, .int .u64 x112] 92 ∧ Blk w' b18 [.int .i64 5, .int .i64 7, .int .i64 11, .int .i64 13] 2 ∧ Blk w' b84 [.int .i64 t36, .int .i64 t44] 30 ∧ Blk w' b87 [.int .i64 t52, .int .i64 t60] 30 ∧ Blk w' b90 [.int .i64 t68, .int .i64 t76] 30)
  case atStart => exact ⟨0, t77, t78, (by first | rfl | simp), HL116, ⟨Nat.le_refl _⟩, ⟨((((((((((((((hu16.out.trans hu20.out).grow hs28.out (fun k hk => Nat.le_trans (Nat.le_refl _) ((fun k hk => Nat.le_trans lbb11.out (Nat.le_of_eq (Option.some.inj hk))) k hk))).grow hs42.out (fun k hk => Nat.le_trans (Nat.le_refl _) ((fun k hk => Nat.le_trans lbb11.out (Nat.le_of_eq (Option.some.inj hk))) k hk))).grow hs50.out (fun k hk => Nat.le_trans (Nat.le_refl _) ((fun k hk => Nat.le_trans lbb11.out (Nat.le_of_eq (Option.some.inj hk))) k hk))).grow hs58.out (fun k hk => Nat.le_trans (Nat.le_refl _) ((fun k hk => Nat.le_trans lbb11.out (Nat.le_of_eq (Option.some.inj hk))) k hk))).grow hs66.out (fun k hk => Nat.le_trans (Nat.le_refl _) ((fun k hk => Nat.le_trans lbb11.out (Nat.le_of_eq (Option.some.inj hk))) k hk))).grow hs74.out (fun k hk => Nat.le_trans (Nat.le_refl _) ((fun k hk => Nat.le_trans lbb11.out (Nat.le_of_eq (Option.some.inj hk))) k hk))).grow hs82.out (fun k hk => Nat.le_trans (Nat.le_refl _) ((fun k hk => Nat.le_trans lbb11.out (Nat.le_of_eq (Option.some.inj hk))) k hk))).trans hu86.out).trans hu89.out).trans hu92.out).sto (Nat.le_trans ((Nat.le_trans ((Nat.le_trans ((Nat.le_trans ((Nat.le_trans ((Nat.le_trans ((Nat.le_trans ((Nat.le_trans ((Nat.le_trans (hu16.out.size) hu20.out.size)) hs28.out.size)) hs42.out.size)) hs50.out.size)) hs58.out.size)) hs66.out.size)) hs74.out.size)) hs82.out.size)) lbb84.out) hs94.out).sto (Nat.le_trans ((Nat.le_trans ((Nat.le_trans ((Nat.le_trans ((Nat.le_trans ((Nat.le_trans ((Nat.le_trans ((Nat.le_trans ((Nat.le_trans ((Nat.le_trans (hu16.out.size) hu20.out.size)) hs28.out.size)) hs42.out.size)) hs50.out.size)) hs58.out.size)) hs66.out.size)) hs74.out.size)) hs82.out.size)) hu86.out.size)) lbb87.out) hs99.out).sto (Nat.le_trans ((Nat.le_trans ((Nat.le_trans ((Nat.le_trans ((Nat.le_trans ((Nat.le_trans ((Nat.le_trans ((Nat.le_trans ((Nat.le_trans ((Nat.le_trans ((Nat.le_trans (hu16.out.size) hu20.out.size)) hs28.out.size)) hs42.out.size)) hs50.out.size)) hs58.out.size)) hs66.out.size)) hs74.out.size)) hs82.out.size)) hu86.out.size)) hu89.out.size)) lbb90.out) hs104.out)⟩, ⟨Nat.le_refl _⟩, (h81.up (((((hu86.out.trans hu89.out).trans hu92.out).sto (Nat.le_trans (Nat.le_refl _) lbb84.out) hs94.out).sto (Nat.le_trans (hu86.out.size) lbb87.out) hs99.out).sto (Nat.le_trans ((Nat.le_trans (hu86.out.size) hu89.out.size)) lbb90.out) hs104.out)), (h83.up (((((hu86.out.trans hu89.out).trans hu92.out).sto (Nat.le_trans (Nat.le_refl _) lbb84.out) hs94.out).sto (Nat.le_trans (hu86.out.size) lbb87.out) hs99.out).sto (Nat.le_trans ((Nat.le_trans (hu86.out.size) hu89.out.size)) lbb90.out) hs104.out)), h106, h107, hb105⟩
  case round =>
   rename_i J125 K126 hJ125 hK126
   obtain ⟨x110, x111, x112, rfl, HL124, hk123, hu114, hz115, h117, h118, h119, h120, h121⟩ := hrel
   obtain ⟨w113, rfl⟩ : ∃ wo : World, wo = wr := ⟨_, rfl⟩
   obtain ⟨k122, rfl⟩ | rfl : (∃ k, gk = k + 1) ∨ gk = 0 := by rcases gk with _ | k; exact .inr rfl; exact .inl ⟨k, rfl⟩
   case inr => exact absurd HL124.out (by simp [laws_FnTop.l0])
   have H := HL124.out
   clear HL124
   rw [laws_FnTop.l0] at H
   refine wp_seq_k (fun K127 hK127 => ?_)
   refine wp_seq_k (fun K128 hK128 => ?_)
   refine wp_region_lit ?_
   refine wpList_plain rfl (fun Ko hKo => ?_)
   go_simp
   refine hKo _ _ ?_
   clear hKo Ko
   try simp only [Act.put, nm1, nm2, nm3, i64_w]
   refine wpList_plain rfl (fun Ko hKo => ?_)
   go_simp
   refine hKo _ _ ?_
   clear hKo Ko
   try simp only [Act.put, nm1, nm2, nm3, i64_w]
   refine wpList_nil ?_
   (try simp only [Exit.then, Exit.inBlock, ↓reduceIte, Nat.reduceEqDiff])
   refine hK128 _ _ ?_
   have hm130 := Aside0.mk (Nat.le_trans ((Nat.le_trans ((Nat.le_trans ((Nat.le_trans ((Nat.le_trans ((Nat.le_trans ((Nat.le_trans ((Nat.le_trans ((Nat.le_trans ((Nat.le_trans ((Nat.le_trans ((Nat.le_trans ((Nat.le_trans ((Nat.le_trans ((Nat.le_trans ((Nat.le_trans (hu7.out.size) hu16.out.size)) hu20.out.size)) hs28.out.size)) hs42.out.size)) hs50.out.size)) hs58.out.size)) hs66.out.size)) hs74.out.size)) hs82.out.size)) hu86.out.size)) hu89.out.size)) hu92.out.size)) (Nat.le_of_eq hs94.out.size.symm))) (Nat.le_of_eq hs99.out.size.symm))) (Nat.le_of_eq hs104.out.size.symm))) hz115.out)
   have hm131 := Aside0.mk (Nat.le_trans ((Nat.le_trans ((Nat.le_trans ((Nat.le_trans ((Nat.le_trans ((Nat.le_trans ((Nat.le_trans ((Nat.le_trans ((Nat.le_trans ((Nat.le_trans ((Nat.le_trans ((Nat.le_trans ((Nat.le_trans ((Nat.le_trans ((Nat.le_trans (hu16.out.size) hu20.out.size)) hs28.out.size)) hs42.out.size)) hs50.out.size)) hs58.out.size)) hs66.out.size)) hs74.out.size)) hs82.out.size)) hu86.out.size)) hu89.out.size)) hu92.out.size)) (Nat.le_of_eq hs94.out.size.symm))) (Nat.le_of_eq hs99.out.size.symm))) (Nat.le_of_eq hs104.out.size.symm))) hz115.out)
   by_cases c129 : (decide (x110 < 3)) = true
   ·
    rw [if_pos c129] at H
    replace H := Option.bind_eq_some_iff.mp H
    obtain ⟨⟨t134, t135⟩, A136, H⟩ := H
    replace A136 := Aside0.mk A136
    try dsimp only at H
    replace H := Option.bind_eq_some_iff.mp H
    obtain ⟨⟨t140, t141⟩, A142, H⟩ := H
    replace A142 := Aside0.mk A142
    try dsimp only at H
    replace H := Option.bind_eq_some_iff.mp H
    obtain ⟨⟨t146, t147⟩, A148, H⟩ := H
    replace A148 := Aside0.mk A148
    try dsimp only at H
    try simp only [c129, Bool.not_true, Bool.not_false]
    refine wp_cond_true rfl ?_
    refine wp_skip ?_
    (try simp only [Exit.then, Exit.inBlock, ↓reduceIte, Nat.reduceEqDiff])
    refine hK127 _ _ ?_
    refine wp_seq_k (fun K132 hK132 => ?_)
    refine wp_block ?_
    refine wp_seq_k (fun K133 hK133 => ?_)
    refine wp_region_lit ?_
    refine wpList_plain rfl (fun Ko hKo => ?_)
    go_simp
    refine hKo _ _ ?_
    clear hKo Ko
    try simp only [Act.put, nm1, nm2, nm3, i64_w]
    refine wpList_plain rfl (fun Ko hKo => ?_)
    go_simp
    refine hKo _ _ ?_
    clear hKo Ko
    try simp only [Act.put, nm1, nm2, nm3, i64_w]
    have cl0 := h120.cell (o := 0) rfl
    have cl1 := h120.cell (o := 1) rfl
    refine wpList_plain rfl (fun Ko hKo => ?_)
    go_simp
    refine hKo _ _ ?_
    clear hKo Ko
    clear cl0 cl1
    try simp only [Act.put, nm1, nm2, nm3, i64_w]
    have cl0 := h121.cell (o := 0) rfl
    have cl1 := h121.cell (o := 1) rfl
    refine wpList_plain rfl (fun Ko hKo => ?_)
    go_simp
    refine hKo _ _ ?_
    clear hKo Ko
    clear cl0 cl1
    try simp only [Act.put, nm1, nm2, nm3, i64_w]
    refine step_call (wanted_none rfl) (by first | (go_simp; done) | (go_simp; rfl)) (impl_Quadrance.calls K t30 x110 t52 t60 t68 t76 t134 t135 w113  A136.out) ?_
    rintro e w137 ⟨rfl, hu⟩
    have hu138 := Aside0.mk hu
    clear hu
    refine ⟨_, rfl, ?_⟩
    simp only [Act.put, nm1, nm2, nm3, i64_w]
    refine wpList_plain rfl (fun Ko hKo => ?_)
    go_simp
    refine hKo _ _ ?_
    clear hKo Ko
    try simp only [Act.put, nm1, nm2, nm3, i64_w]
    refine wpList_plain rfl (fun Ko hKo => ?_)
    go_simp
    refine hKo _ _ ?_
    clear hKo Ko
    try simp only [Act.put, nm1, nm2, nm3, i64_w]
    refine wpList_plain rfl (fun Ko hKo => ?_)
    go_simp
    refine hKo _ _ ?_
    clear hKo Ko
    try simp only [Act.put, nm1, nm2, nm3, i64_w]
    refine wpList_plain rfl (fun Ko hKo => ?_)
    go_simp
    refine hKo _ _ ?_
    clear hKo Ko
    try simp only [Act.put, nm1, nm2, nm3, i64_w]
    refine wpList_plain rfl (fun Ko hKo => ?_)
    go_simp
    refine hKo _ _ ?_
    clear hKo Ko
    try simp only [Act.put, nm1, nm2, nm3, i64_w]
    refine wpList_nil ?_
    (try simp only [Exit.then, Exit.inBlock, ↓reduceIte, Nat.reduceEqDiff])
    refine hK133 _ _ ?_
    as_aux_lemma =>
    refine wp_seq_k (fun K139 hK139 => ?_)
    refine wp_region_lit ?_
    refine wpList_plain rfl (fun Ko hKo => ?_)
    go_simp
    refine hKo _ _ ?_
    clear hKo Ko
    try simp only [Act.put, nm1, nm2, nm3, i64_w]
    refine wpList_plain rfl (fun Ko hKo => ?_)
    go_simp
    refine hKo _ _ ?_
    clear hKo Ko
    try simp only [Act.put, nm1, nm2, nm3, i64_w]
    have cl0 := (h119.up hu138.out).cell (o := 0) rfl
    have cl1 := (h119.up hu138.out).cell (o := 1) rfl
    refine wpList_plain rfl (fun Ko hKo => ?_)
    go_simp
    refine hKo _ _ ?_
    clear hKo Ko
    clear cl0 cl1
    try simp only [Act.put, nm1, nm2, nm3, i64_w]
    have cl0 := (h121.up hu138.out).cell (o := 0) rfl
    have cl1 := (h121.up hu138.out).cell (o := 1) rfl
    refine wpList_plain rfl (fun Ko hKo => ?_)
    go_simp
    refine hKo _ _ ?_
    clear hKo Ko
    clear cl0 cl1
    try simp only [Act.put, nm1, nm2, nm3, i64_w]
    refine step_call (wanted_none rfl) (by first | (go_simp; done) | (go_simp; rfl)) (impl_Quadrance.calls K t30 x110 t36 t44 t68 t76 t140 t141 w137  A142.out) ?_
    rintro e w143 ⟨rfl, hu⟩
    have hu144 := Aside0.mk hu
    clear hu
    refine ⟨_, rfl, ?_⟩
    simp only [Act.put, nm1, nm2, nm3, i64_w]
    refine wpList_plain rfl (fun Ko hKo => ?_)
    go_simp
    refine hKo _ _ ?_
    clear hKo Ko
    try simp only [Act.put, nm1, nm2, nm3, i64_w]
    refine wpList_plain rfl (fun Ko hKo => ?_)
    go_simp
    refine hKo _ _ ?_
    clear hKo Ko
    try simp only [Act.put, nm1, nm2, nm3, i64_w]
    refine wpList_plain rfl (fun Ko hKo => ?_)
    go_simp
    refine hKo _ _ ?_
    clear hKo Ko
    try simp only [Act.put, nm1, nm2, nm3, i64_w]
    refine wpList_plain rfl (fun Ko hKo => ?_)
    go_simp
    refine hKo _ _ ?_
    clear hKo Ko
    try simp only [Act.put, nm1, nm2, nm3, i64_w]
    refine wpList_plain rfl (fun Ko hKo => ?_)
    go_simp
    refine hKo _ _ ?_
    clear hKo Ko
    try simp only [Act.put, nm1, nm2, nm3, i64_w]
    refine wpList_nil ?_
    (try simp only [Exit.then, Exit.inBlock, ↓reduceIte, Nat.reduceEqDiff])
    refine hK139 _ _ ?_
    refine wp_seq_k (fun K145 hK145 => ?_)
    refine wp_region_lit ?_
    refine wpList_plain rfl (fun Ko hKo => ?_)
    go_simp
    refine hKo _ _ ?_
    clear hKo Ko
    try simp only [Act.put, nm1, nm2, nm3, i64_w]
    refine wpList_plain rfl (fun Ko hKo => ?_)
    go_simp
    refine hKo _ _ ?_
    clear hKo Ko
    try simp only [Act.put, nm1, nm2, nm3, i64_w]
    have cl0 := (h119.up (hu138.out.trans hu144.out)).cell (o := 0) rfl
    have cl1 := (h119.up (hu138.out.trans hu144.out)).cell (o := 1) rfl
    refine wpList_plain rfl (fun Ko hKo => ?_)
    go_simp
    refine hKo _ _ ?_
    clear hKo Ko
    clear cl0 cl1
    try simp only [Act.put, nm1, nm2, nm3, i64_w]
    have cl0 := (h120.up (hu138.out.trans hu144.out)).cell (o := 0) rfl
    have cl1 := (h120.up (hu138.out.trans hu144.out)).cell (o := 1) rfl
    refine wpList_plain rfl (fun Ko hKo => ?_)
    go_simp
    refine hKo _ _ ?_
    clear hKo Ko
    clear cl0 cl1
    try simp only [Act.put, nm1, nm2, nm3, i64_w]
    refine step_call (wanted_none rfl) (by first | (go_simp; done) | (go_simp; rfl)) (impl_Quadrance.calls K t30 x110 t36 t44 t52 t60 t146 t147 w143  A148.out) ?_
    rintro e w149 ⟨rfl, hu⟩
    have hu150 := Aside0.mk hu
    clear hu
    refine ⟨_, rfl, ?_⟩
    simp only [Act.put, nm1, nm2, nm3, i64_w]
    refine wpList_plain rfl (fun Ko hKo => ?_)
    go_simp
    refine hKo _ _ ?_
    clear hKo Ko
    try simp only [Act.put, nm1, nm2, nm3, i64_w]
    refine wpList_plain rfl (fun Ko hKo => ?_)
    go_simp
    refine hKo _ _ ?_
    clear hKo Ko
    try simp only [Act.put, nm1, nm2, nm3, i64_w]
    refine wpList_plain rfl (fun Ko hKo => ?_)
    go_simp
    refine hKo _ _ ?_
    clear hKo Ko
    try simp only [Act.put, nm1, nm2, nm3, i64_w]
    refine wpList_plain rfl (fun Ko hKo => ?_)
    go_simp
    refine hKo _ _ ?_
    clear hKo Ko
    try simp only [Act.put, nm1, nm2, nm3, i64_w]
    refine wpList_plain rfl (fun Ko hKo => ?_)
    go_simp
    refine hKo _ _ ?_
    clear hKo Ko
    try simp only [Act.put, nm1, nm2, nm3, i64_w]
    refine wpList_nil ?_
    (try simp only [Exit.then, Exit.inBlock, ↓reduceIte, Nat.reduceEqDiff])
    refine hK145 _ _ ?_
    as_aux_lemma =>
    refine wp_seq_k (fun K151 hK151 => ?_)
    refine wp_seq_k (fun K152 hK152 => ?_)
    refine wp_region_lit ?_
    refine wpList_plain rfl (fun Ko hKo => ?_)
    go_simp
    refine hKo _ _ ?_
    clear hKo Ko
    try simp only [Act.put, nm1, nm2, nm3, i64_w]
    refine wpList_plain rfl (fun Ko hKo => ?_)
    go_simp
    refine hKo _ _ ?_
    clear hKo Ko
    try simp only [Act.put, nm1, nm2, nm3, i64_w]
    refine wpList_plain rfl (fun Ko hKo => ?_)
    go_simp
    refine hKo _ _ ?_
    clear hKo Ko
    try simp only [Act.put, nm1, nm2, nm3, i64_w]
    have hm154 := Aside0.mk (Nat.le_trans ((Nat.le_trans ((Nat.le_trans (hm130.out) hu138.out.size)) hu144.out.size)) hu150.out.size)
    have hm155 := Aside0.mk (Nat.le_trans ((Nat.le_trans ((Nat.le_trans (hm131.out) hu138.out.size)) hu144.out.size)) hu150.out.size)
    have hm156 := Aside0.mk (Nat.le_trans ((Nat.le_trans ((Nat.le_trans ((Nat.le_trans (Nat.le_refl _) hz115.out)) hu138.out.size)) hu144.out.size)) hu150.out.size)
    by_cases c153 : (t135 == 0) = true
    ·
     rw [if_pos c153] at H
     have c153n : (t135 != 0) = false := by rw [bne, c153]; rfl
     try simp only [c153, c153n, Bool.not_true, Bool.not_false]
     refine wpList_step (fun Ko hKo => ?_)
     go_simp
     refine hKo _ _ ?_
     clear hKo Ko
     try simp only [Act.put, nm1, nm2, nm3, i64_w]
     refine wpList_step (fun Ko hKo => ?_)
     go_simp
     refine hKo _ _ ?_
     clear hKo Ko
     try simp only [Act.put, nm1, nm2, nm3, i64_w]
     refine wpList_plain rfl (fun Ko hKo => ?_)
     go_simp
     refine hKo _ _ ?_
     clear hKo Ko
     try simp only [Act.put, nm1, nm2, nm3, i64_w]
     refine wpList_plain rfl (fun Ko hKo => ?_)
     go_simp
     refine hKo _ _ ?_
     clear hKo Ko
     try simp only [Act.put, nm1, nm2, nm3, i64_w]
     by_cases c157 : (t141 == 0) = true
     ·
      rw [if_pos c157] at H
      have c157n : (t141 != 0) = false := by rw [bne, c157]; rfl
      try simp only [c157, c157n, Bool.not_true, Bool.not_false]
      refine wpList_step (fun Ko hKo => ?_)
      go_simp
      refine hKo _ _ ?_
      clear hKo Ko
      try simp only [Act.put, nm1, nm2, nm3, i64_w]
      refine wpList_step (fun Ko hKo => ?_)
      go_simp
      refine hKo _ _ ?_
      clear hKo Ko
      try simp only [Act.put, nm1, nm2, nm3, i64_w]
      refine wpList_plain rfl (fun Ko hKo => ?_)
      go_simp
      refine hKo _ _ ?_
      clear hKo Ko
      try simp only [Act.put, nm1, nm2, nm3, i64_w]
      refine wpList_nil ?_
      (try simp only [Exit.then, Exit.inBlock, ↓reduceIte, Nat.reduceEqDiff])
      refine hK152 _ _ ?_
      by_cases c158 : (t147 == 0) = true
      ·
       rw [if_pos c158] at H
       have c158n : (t147 != 0) = false := by rw [bne, c158]; rfl
       replace H := Option.bind_eq_some_iff.mp H
       obtain ⟨⟨t160, t161, t162⟩, A163, H⟩ := H
       replace A163 := Aside0.mk A163
       try dsimp only at H
       replace H := Option.bind_eq_some_iff.mp H
       obtain ⟨⟨t171, t172, t173⟩, A174, H⟩ := H
       replace A174 := Aside0.mk A174
       try dsimp only at H
       replace H := Option.bind_eq_some_iff.mp H
       obtain ⟨⟨t182, t183, t184, t185⟩, A186, H⟩ := H
       replace A186 := Aside0.mk A186
       try dsimp only at H
       replace H := Option.bind_eq_some_iff.mp H
       obtain ⟨⟨t196, t197, t198, t199, t200, t201, t202⟩, A203, H⟩ := H
       replace A203 := Aside0.mk A203
       try dsimp only at H
       try simp only [c158, c158n, Bool.not_true, Bool.not_false]
       refine wp_cond_false rfl ?_
       refine wp_skip ?_
       (try simp only [Exit.then, Exit.inBlock, ↓reduceIte, Nat.reduceEqDiff])
       refine hK151 _ _ ?_
       refine wp_seq_k (fun K159 hK159 => ?_)
       refine wp_region_lit ?_
       refine wpList_plain rfl (fun Ko hKo => ?_)
       go_simp
       refine hKo _ _ ?_
       clear hKo Ko
       try simp only [Act.put, nm1, nm2, nm3, i64_w]
       refine wpList_plain rfl (fun Ko hKo => ?_)
       go_simp
       refine hKo _ _ ?_
       clear hKo Ko
       try simp only [Act.put, nm1, nm2, nm3, i64_w]
       refine wpList_plain rfl (fun Ko hKo => ?_)
       go_simp
       refine hKo _ _ ?_
       clear hKo Ko
       try simp only [Act.put, nm1, nm2, nm3, i64_w]
       refine wpList_plain rfl (fun Ko hKo => ?_)
       go_simp
       refine hKo _ _ ?_
       clear hKo Ko
       try simp only [Act.put, nm1, nm2, nm3, i64_w]
       refine step_call (wanted_none rfl) (by first | (go_simp; done) | (go_simp; rfl)) (laws_dice_below.calls K b11 a0_A a0_c a0 x111 x112 (wrap64 (t30 - 2)) t160 t161 t162 w149 (h117.up ((hu138.out.trans hu144.out).trans hu150.out)) (ha0.up ((((hu7.out.trans hu114.out).trans hu138.out).trans hu144.out).trans hu150.out)) (fun k hk hp => Nat.ne_of_lt (Nat.lt_of_lt_of_le ((ha0.up hu7.out).blk_lt hp k hk) lbb11.out)) A163.out) ?_
       rintro e w164 ⟨rfl, h165, hs⟩
       have hs166 := Aside0.mk hs
       clear hs
       have h167 := (h118.up ((hu138.out.trans hu144.out).trans hu150.out)).grow hs166.out (fun k hk e => (Nat.ne_of_lt (Nat.lt_of_lt_of_le ltb11.out lbb18.out)) ((Option.some.inj hk).trans e))
       have h168 := (h119.up ((hu138.out.trans hu144.out).trans hu150.out)).grow hs166.out (fun k hk e => (Nat.ne_of_lt (Nat.lt_of_lt_of_le (Nat.lt_of_lt_of_le ltb11.out ((Nat.le_trans ((Nat.le_trans ((Nat.le_trans ((Nat.le_trans ((Nat.le_trans ((Nat.le_trans ((Nat.le_trans (hu20.out.size) hs28.out.size)) hs42.out.size)) hs50.out.size)) hs58.out.size)) hs66.out.size)) hs74.out.size)) hs82.out.size))) lbb84.out)) ((Option.some.inj hk).trans e))
       have h169 := (h120.up ((hu138.out.trans hu144.out).trans hu150.out)).grow hs166.out (fun k hk e => (Nat.ne_of_lt (Nat.lt_of_lt_of_le (Nat.lt_of_lt_of_le ltb11.out ((Nat.le_trans ((Nat.le_trans ((Nat.le_trans ((Nat.le_trans ((Nat.le_trans ((Nat.le_trans ((Nat.le_trans ((Nat.le_trans (hu20.out.size) hs28.out.size)) hs42.out.size)) hs50.out.size)) hs58.out.size)) hs66.out.size)) hs74.out.size)) hs82.out.size)) hu86.out.size))) lbb87.out)) ((Option.some.inj hk).trans e))
       have h170 := (h121.up ((hu138.out.trans hu144.out).trans hu150.out)).grow hs166.out (fun k hk e => (Nat.ne_of_lt (Nat.lt_of_lt_of_le (Nat.lt_of_lt_of_le ltb11.out ((Nat.le_trans ((Nat.le_trans ((Nat.le_trans ((Nat.le_trans ((Nat.le_trans ((Nat.le_trans ((Nat.le_trans ((Nat.le_trans ((Nat.le_trans (hu20.out.size) hs28.out.size)) hs42.out.size)) hs50.out.size)) hs58.out.size)) hs66.out.size)) hs74.out.size)) hs82.out.size)) hu86.out.size)) hu89.out.size))) lbb90.out)) ((Option.some.inj hk).trans e))
       refine ⟨_, rfl, ?_⟩
       simp only [Act.put, nm1, nm2, nm3, i64_w]
       refine wpList_plain rfl (fun Ko hKo => ?_)
       go_simp
       refine hKo _ _ ?_
       clear hKo Ko
       try simp only [Act.put, nm1, nm2, nm3, i64_w]
       refine wpList_plain rfl (fun Ko hKo => ?_)
       go_simp
       refine hKo _ _ ?_
       clear hKo Ko
       try simp only [Act.put, nm1, nm2, nm3, i64_w]
       refine wpList_plain rfl (fun Ko hKo => ?_)
       go_simp
       refine hKo _ _ ?_
       clear hKo Ko
       try simp only [Act.put, nm1, nm2, nm3, i64_w]
       refine step_call (wanted_none rfl) (by first | (go_simp; done) | (go_simp; rfl)) (laws_dice_below.calls K b11 a0_A a0_c a0 t161 t162 t30 t171 t172 t173 w164 h165 (ha0.up (((((hu7.out.trans hu114.out).trans hu138.out).trans hu144.out).trans hu150.out).grow hs166.out (fun k hk => Nat.le_trans (hu7.out.size) ((fun k hk => Nat.le_trans lbb11.out (Nat.le_of_eq (Option.some.inj hk))) k hk)))) (fun k hk hp => Nat.ne_of_lt (Nat.lt_of_lt_of_le ((ha0.up hu7.out).blk_lt hp k hk) lbb11.out)) A174.out) ?_
       rintro e w175 ⟨rfl, h176, hs⟩
       have hs177 := Aside0.mk hs
       clear hs
       have h178 := h167.grow hs177.out (fun k hk e => (Nat.ne_of_lt (Nat.lt_of_lt_of_le ltb11.out lbb18.out)) ((Option.some.inj hk).trans e))
       have h179 := h168.grow hs177.out (fun k hk e => (Nat.ne_of_lt (Nat.lt_of_lt_of_le (Nat.lt_of_lt_of_le ltb11.out ((Nat.le_trans ((Nat.le_trans ((Nat.le_trans ((Nat.le_trans ((Nat.le_trans ((Nat.le_trans ((Nat.le_trans (hu20.out.size) hs28.out.size)) hs42.out.size)) hs50.out.size)) hs58.out.size)) hs66.out.size)) hs74.out.size)) hs82.out.size))) lbb84.out)) ((Option.some.inj hk).trans e))
       have h180 := h169.grow hs177.out (fun k hk e => (Nat.ne_of_lt (Nat.lt_of_lt_of_le (Nat.lt_of_lt_of_le ltb11.out ((Nat.le_trans ((Nat.le_trans ((Nat.le_trans ((Nat.le_trans ((Nat.le_trans ((Nat.le_trans ((Nat.le_trans ((Nat.le_trans (hu20.out.size) hs28.out.size)) hs42.out.size)) hs50.out.size)) hs58.out.size)) hs66.out.size)) hs74.out.size)) hs82.out.size)) hu86.out.size))) lbb87.out)) ((Option.some.inj hk).trans e))
       have h181 := h170.grow hs177.out (fun k hk e => (Nat.ne_of_lt (Nat.lt_of_lt_of_le (Nat.lt_of_lt_of_le ltb11.out ((Nat.le_trans ((Nat.le_trans ((Nat.le_trans ((Nat.le_trans ((Nat.le_trans ((Nat.le_trans ((Nat.le_trans ((Nat.le_trans ((Nat.le_trans (hu20.out.size) hs28.out.size)) hs42.out.size)) hs50.out.size)) hs58.out.size)) hs66.out.size)) hs74.out.size)) hs82.out.size)) hu86.out.size)) hu89.out.size))) lbb90.out)) ((Option.some.inj hk).trans e))
       refine ⟨_, rfl, ?_⟩
       simp only [Act.put, nm1, nm2, nm3, i64_w]
       refine step_call (wanted_none rfl) (by first | (go_simp; done) | (go_simp; rfl)) (impl_LineOf.calls K t30 1 (wrap64 (2 + t160)) t171 t182 t183 t184 t185 w175  A186.out) ?_
       rintro e w187 ⟨rfl, hu⟩
       have hu188 := Aside0.mk hu
       clear hu
       refine ⟨_, rfl, ?_⟩
       simp only [Act.put, nm1, nm2, nm3, i64_w]
       refine wpList_plain rfl (fun Ko hKo => ?_)
       go_simp
       refine hKo _ _ ?_
       clear hKo Ko
       try simp only [Act.put, nm1, nm2, nm3, i64_w]
       refine wpList_plain rfl (fun Ko hKo => ?_)
       go_simp
       refine hKo _ _ ?_
       clear hKo Ko
       try simp only [Act.put, nm1, nm2, nm3, i64_w]
       refine wpList_plain rfl (fun Ko hKo => ?_)
       go_simp
       refine hKo _ _ ?_
       clear hKo Ko
       try simp only [Act.put, nm1, nm2, nm3, i64_w]
       refine step_new (cs := [.int .i64 0, .int .i64 0, .int .i64 0]) (T := 34) (f := fun b => .pointer (some ⟨b, 0, none⟩)) rfl (by first | (go_simp; done) | (go_simp; rfl)) ?_
       intro b189 w190 hu lb hb189
       simp only [Act.put, nm1, nm2, nm3, i64_w]
       have lbb189 := Aside0.mk lb
       have ltb189 := Aside0.mk hb189.lt
       clear lb
       have hu191 := Aside0.mk hu
       clear hu
       have hB0 := hb189
       have cl0 := hB0.cell (o := 0) rfl
       have fr0 := hB0.free 0
       have cl1 := hB0.cell (o := 1) rfl
       have fr1 := hB0.free 1
       have cl2 := hB0.cell (o := 2) rfl
       have fr2 := hB0.free 2
       refine step_store (b := b189) (cs' := [.int .i64 t182, .int .i64 t183, .int .i64 t184]) (T := 34) (W' := (((w190.setCell ⟨b189, 0, none⟩ (.int .i64 t182)).setCell ⟨b189, 1, none⟩ (.int .i64 t183)).setCell ⟨b189, 2, none⟩ (.int .i64 t184))) rfl rfl (by first | (go_simp; done) | (go_simp; rfl)) ((((Sto.refl _ _).setCell 0 _).setCell 1 _).setCell 2 _) ((((hB0).setCell 0 _).setCell 1 _).setCell 2 _) ?_
       clear hB0 cl0 fr0 cl1 fr1 cl2 fr2
       intro w192 hs hb194
       have hs193 := Aside0.mk hs
       clear hs
       refine wpList_plain rfl (fun Ko hKo => ?_)
       go_simp
       refine hKo _ _ ?_
       clear hKo Ko
       try simp only [Act.put, nm1, nm2, nm3, i64_w]
       refine wpList_nil ?_
       (try simp only [Exit.then, Exit.inBlock, ↓reduceIte, Nat.reduceEqDiff])
       refine hK159 _ _ ?_
       as_aux_lemma =>
       refine wp_seq_k (fun K195 hK195 => ?_)
       refine wp_region_lit ?_
       refine wpList_plain rfl (fun Ko hKo => ?_)
       go_simp
       refine hKo _ _ ?_
       clear hKo Ko
       try simp only [Act.put, nm1, nm2, nm3, i64_w]
       refine wpList_plain rfl (fun Ko hKo => ?_)
       go_simp
       refine hKo _ _ ?_
       clear hKo Ko
       try simp only [Act.put, nm1, nm2, nm3, i64_w]
       have cl0 := hb194.cell (o := 0) rfl
       have cl1 := hb194.cell (o := 1) rfl
       have cl2 := hb194.cell (o := 2) rfl
       refine wpList_plain rfl (fun Ko hKo => ?_)
       go_simp
       refine hKo _ _ ?_
       clear hKo Ko
       clear cl0 cl1 cl2
       try simp only [Act.put, nm1, nm2, nm3, i64_w]
       refine step_call (wanted_none rfl) (by first | (go_simp; done) | (go_simp; rfl)) (impl_ReflectionIn.calls K t30 x110 t182 t183 t184 t196 t197 t198 t199 t200 t201 t202 w192  A203.out) ?_
       rintro e w204 ⟨rfl, hu⟩
       have hu205 := Aside0.mk hu
       clear hu
       refine ⟨_, rfl, ?_⟩
       simp only [Act.put, nm1, nm2, nm3, i64_w]
       refine wpList_plain rfl (fun Ko hKo => ?_)
       go_simp
       refine hKo _ _ ?_
       clear hKo Ko
       try simp only [Act.put, nm1, nm2, nm3, i64_w]
       refine wpList_plain rfl (fun Ko hKo => ?_)
       go_simp
       refine hKo _ _ ?_
       clear hKo Ko
       try simp only [Act.put, nm1, nm2, nm3, i64_w]
       refine wpList_plain rfl (fun Ko hKo => ?_)
       go_simp
       refine hKo _ _ ?_
       clear hKo Ko
       try simp only [Act.put, nm1, nm2, nm3, i64_w]
       refine step_new (cs := [.int .i64 0, .int .i64 0, .int .i64 0, .int .i64 0, .int .i64 0, .int .i64 0]) (T := 39) (f := fun b => .pointer (some ⟨b, 0, none⟩)) rfl (by first | (go_simp; done) | (go_simp; rfl)) ?_
       intro b206 w207 hu lb hb206
       simp only [Act.put, nm1, nm2, nm3, i64_w]
       have lbb206 := Aside0.mk lb
       have ltb206 := Aside0.mk hb206.lt
       clear lb
       have hu208 := Aside0.mk hu
       clear hu
       have hB0 := hb206
       have cl0 := hB0.cell (o := 0) rfl
       have fr0 := hB0.free 0
       have cl1 := hB0.cell (o := 1) rfl
       have fr1 := hB0.free 1
       have cl2 := hB0.cell (o := 2) rfl
       have fr2 := hB0.free 2
       have cl3 := hB0.cell (o := 3) rfl
       have fr3 := hB0.free 3
       have cl4 := hB0.cell (o := 4) rfl
       have fr4 := hB0.free 4
       have cl5 := hB0.cell (o := 5) rfl
       have fr5 := hB0.free 5
       refine step_store (b := b206) (cs' := [.int .i64 t196, .int .i64 t197, .int .i64 t198, .int .i64 t199, .int .i64 t200, .int .i64 t201]) (T := 39) (W' := ((((((w207.setCell ⟨b206, 0, none⟩ (.int .i64 t196)).setCell ⟨b206, 1, none⟩ (.int .i64 t197)).setCell ⟨b206, 2, none⟩ (.int .i64 t198)).setCell ⟨b206, 3, none⟩ (.int .i64 t199)).setCell ⟨b206, 4, none⟩ (.int .i64 t200)).setCell ⟨b206, 5, none⟩ (.int .i64 t201))) rfl rfl (by first | (go_simp; done) | (go_simp; rfl)) (((((((Sto.refl _ _).setCell 0 _).setCell 1 _).setCell 2 _).setCell 3 _).setCell 4 _).setCell 5 _) (((((((hB0).setCell 0 _).setCell 1 _).setCell 2 _).setCell 3 _).setCell 4 _).setCell 5 _) ?_
       clear hB0 cl0 fr0 cl1 fr1 cl2 fr2 cl3 fr3 cl4 fr4 cl5 fr5
       intro w209 hs hb211
       have hs210 := Aside0.mk hs
       clear hs
       refine wpList_plain rfl (fun Ko hKo => ?_)
       go_simp
       refine hKo _ _ ?_
       clear hKo Ko
       try simp only [Act.put, nm1, nm2, nm3, i64_w]
       refine wpList_nil ?_
       (try simp only [Exit.then, Exit.inBlock, ↓reduceIte, Nat.reduceEqDiff])
       refine hK195 _ _ ?_
       refine wp_seq_k (fun K212 hK212 => ?_)
       refine wp_seq_k (fun K213 hK213 => ?_)
       refine wp_region_lit ?_
       refine wpList_plain rfl (fun Ko hKo => ?_)
       go_simp
       refine hKo _ _ ?_
       clear hKo Ko
       try simp only [Act.put, nm1, nm2, nm3, i64_w]
       refine wpList_plain rfl (fun Ko hKo => ?_)
       go_simp
       refine hKo _ _ ?_
       clear hKo Ko
       try simp only [Act.put, nm1, nm2, nm3, i64_w]
       refine wpList_plain rfl (fun Ko hKo => ?_)
       go_simp
       refine hKo _ _ ?_
       clear hKo Ko
       try simp only [Act.put, nm1, nm2, nm3, i64_w]
       have hm215 := Aside0.mk ((((((((((((hu7.out.trans hu114.out).trans hu138.out).trans hu144.out).trans hu150.out).grow hs166.out (fun k hk => Nat.le_trans (hu7.out.size) ((fun k hk => Nat.le_trans lbb11.out (Nat.le_of_eq (Option.some.inj hk))) k hk))).grow hs177.out (fun k hk => Nat.le_trans (hu7.out.size) ((fun k hk => Nat.le_trans lbb11.out (Nat.le_of_eq (Option.some.inj hk))) k hk))).trans hu188.out).trans hu191.out).sto (Nat.le_trans ((Nat.le_trans ((Nat.le_trans ((Nat.le_trans (hm154.out) hs166.out.size)) hs177.out.size)) hu188.out.size)) lbb189.out) hs193.out).trans hu205.out).trans hu208.out).sto (Nat.le_trans ((Nat.le_trans ((Nat.le_trans ((Nat.le_trans ((Nat.le_trans ((Nat.le_trans ((Nat.le_trans (hm154.out) hs166.out.size)) hs177.out.size)) hu188.out.size)) hu191.out.size)) (Nat.le_of_eq hs193.out.size.symm))) hu205.out.size)) lbb206.out) hs210.out)
       have hm216 := Aside0.mk (Nat.le_trans ((Nat.le_trans ((Nat.le_trans ((Nat.le_trans ((Nat.le_trans ((Nat.le_trans ((Nat.le_trans ((Nat.le_trans (hm154.out) hs166.out.size)) hs177.out.size)) hu188.out.size)) hu191.out.size)) (Nat.le_of_eq hs193.out.size.symm))) hu205.out.size)) hu208.out.size)) (Nat.le_of_eq hs210.out.size.symm))
       have hm217 := Aside0.mk (((((((((((hu114.out.trans hu138.out).trans hu144.out).trans hu150.out).grow hs166.out (fun k hk => Nat.le_trans (Nat.le_refl _) ((fun k hk => Nat.le_trans lbb11.out (Nat.le_of_eq (Option.some.inj hk))) k hk))).grow hs177.out (fun k hk => Nat.le_trans (Nat.le_refl _) ((fun k hk => Nat.le_trans lbb11.out (Nat.le_of_eq (Option.some.inj hk))) k hk))).trans hu188.out).trans hu191.out).sto (Nat.le_trans ((Nat.le_trans ((Nat.le_trans ((Nat.le_trans (hm155.out) hs166.out.size)) hs177.out.size)) hu188.out.size)) lbb189.out) hs193.out).trans hu205.out).trans hu208.out).sto (Nat.le_trans ((Nat.le_trans ((Nat.le_trans ((Nat.le_trans ((Nat.le_trans ((Nat.le_trans ((Nat.le_trans (hm155.out) hs166.out.size)) hs177.out.size)) hu188.out.size)) hu191.out.size)) (Nat.le_of_eq hs193.out.size.symm))) hu205.out.size)) lbb206.out) hs210.out)
       have hm218 := Aside0.mk (Nat.le_trans ((Nat.le_trans ((Nat.le_trans ((Nat.le_trans ((Nat.le_trans ((Nat.le_trans ((Nat.le_trans ((Nat.le_trans (hm155.out) hs166.out.size)) hs177.out.size)) hu188.out.size)) hu191.out.size)) (Nat.le_of_eq hs193.out.size.symm))) hu205.out.size)) hu208.out.size)) (Nat.le_of_eq hs210.out.size.symm))
       have hm219 := Aside0.mk (Nat.le_trans ((Nat.le_trans ((Nat.le_trans ((Nat.le_trans ((Nat.le_trans ((Nat.le_trans ((Nat.le_trans ((Nat.le_trans (hm156.out) hs166.out.size)) hs177.out.size)) hu188.out.size)) hu191.out.size)) (Nat.le_of_eq hs193.out.size.symm))) hu205.out.size)) hu208.out.size)) (Nat.le_of_eq hs210.out.size.symm))
       have h220 := (h176.up (((((hu188.out.trans hu191.out).sto (Nat.le_trans (hu188.out.size) lbb189.out) hs193.out).trans hu205.out).trans hu208.out).sto (Nat.le_trans ((Nat.le_trans ((Nat.le_trans ((Nat.le_trans (hu188.out.size) hu191.out.size)) (Nat.le_of_eq hs193.out.size.symm))) hu205.out.size)) lbb206.out) hs210.out))
       have h221 := (h178.up (((((hu188.out.trans hu191.out).sto (Nat.le_trans (hu188.out.size) lbb189.out) hs193.out).trans hu205.out).trans hu208.out).sto (Nat.le_trans ((Nat.le_trans ((Nat.le_trans ((Nat.le_trans (hu188.out.size) hu191.out.size)) (Nat.le_of_eq hs193.out.size.symm))) hu205.out.size)) lbb206.out) hs210.out))
       have h222 := (h179.up (((((hu188.out.trans hu191.out).sto (Nat.le_trans (hu188.out.size) lbb189.out) hs193.out).trans hu205.out).trans hu208.out).sto (Nat.le_trans ((Nat.le_trans ((Nat.le_trans ((Nat.le_trans (hu188.out.size) hu191.out.size)) (Nat.le_of_eq hs193.out.size.symm))) hu205.out.size)) lbb206.out) hs210.out))
       have h223 := (h180.up (((((hu188.out.trans hu191.out).sto (Nat.le_trans (hu188.out.size) lbb189.out) hs193.out).trans hu205.out).trans hu208.out).sto (Nat.le_trans ((Nat.le_trans ((Nat.le_trans ((Nat.le_trans (hu188.out.size) hu191.out.size)) (Nat.le_of_eq hs193.out.size.symm))) hu205.out.size)) lbb206.out) hs210.out))
       have h224 := (h181.up (((((hu188.out.trans hu191.out).sto (Nat.le_trans (hu188.out.size) lbb189.out) hs193.out).trans hu205.out).trans hu208.out).sto (Nat.le_trans ((Nat.le_trans ((Nat.le_trans ((Nat.le_trans (hu188.out.size) hu191.out.size)) (Nat.le_of_eq hs193.out.size.symm))) hu205.out.size)) lbb206.out) hs210.out))
       have h225 := (hb194.up ((hu205.out.trans hu208.out).sto (Nat.le_trans (hu205.out.size) lbb206.out) hs210.out))
       by_cases c214 : (t185 == 0) = true
       ·
        rw [if_pos c214] at H
        have c214n : (t185 != 0) = false := by rw [bne, c214]; rfl
        try simp only [c214, c214n, Bool.not_true, Bool.not_false]
        refine wpList_step (fun Ko hKo => ?_)
        go_simp
        refine hKo _ _ ?_
        clear hKo Ko
        try simp only [Act.put, nm1, nm2, nm3, i64_w]
        refine wpList_step (fun Ko hKo => ?_)
        go_simp
        refine hKo _ _ ?_
        clear hKo Ko
        try simp only [Act.put, nm1, nm2, nm3, i64_w]
        refine wpList_step (fun Ko hKo => ?_)
        go_simp
        refine hKo _ _ ?_
        clear hKo Ko
        try simp only [Act.put, nm1, nm2, nm3, i64_w]
        by_cases c226 : (t202 == 0) = true
        ·
         rw [if_pos c226] at H
         have c226n : (t202 != 0) = false := by rw [bne, c226]; rfl
         replace H := Option.bind_eq_some_iff.mp H
         obtain ⟨⟨t230, t231, t232⟩, A233, H⟩ := H
         replace A233 := Aside0.mk A233
         try dsimp only at H
         replace H := Option.bind_eq_some_iff.mp H
         obtain ⟨⟨t243, t244, t245⟩, A246, H⟩ := H
         replace A246 := Aside0.mk A246
         try dsimp only at H
         replace H := Option.bind_eq_some_iff.mp H
         obtain ⟨⟨t256, t257⟩, A258, H⟩ := H
         replace A258 := Aside0.mk A258
         try dsimp only at H
         try simp only [c226, c226n, Bool.not_true, Bool.not_false]
         refine step_no rfl ?_
         simp only [Act.put, nm1, nm2, nm3, i64_w]
         refine step_no rfl ?_
         simp only [Act.put, nm1, nm2, nm3, i64_w]
         refine wpList_step (fun Ko hKo => ?_)
         go_simp
         refine hKo _ _ ?_
         clear hKo Ko
         try simp only [Act.put, nm1, nm2, nm3, i64_w]
         refine wpList_plain rfl (fun Ko hKo => ?_)
         go_simp
         refine hKo _ _ ?_
         clear hKo Ko
         try simp only [Act.put, nm1, nm2, nm3, i64_w]
         refine wpList_nil ?_
         (try simp only [Exit.then, Exit.inBlock, ↓reduceIte, Nat.reduceEqDiff])
         refine hK213 _ _ ?_
         as_aux_lemma =>
         refine wp_cond_false rfl ?_
         refine wp_skip ?_
         (try simp only [Exit.then, Exit.inBlock, ↓reduceIte, Nat.reduceEqDiff])
         refine hK212 _ _ ?_
         refine wp_seq_k (fun K227 hK227 => ?_)
         refine wp_seq_k (fun K228 hK228 => ?_)
         refine wp_region_lit ?_
         refine wpList_plain rfl (fun Ko hKo => ?_)
         go_simp
         refine hKo _ _ ?_
         clear hKo Ko
         try simp only [Act.put, nm1, nm2, nm3, i64_w]
         refine wpList_plain rfl (fun Ko hKo => ?_)
         go_simp
         refine hKo _ _ ?_
         clear hKo Ko
         try simp only [Act.put, nm1, nm2, nm3, i64_w]
         refine wpList_nil ?_
         (try simp only [Exit.then, Exit.inBlock, ↓reduceIte, Nat.reduceEqDiff])
         refine hK228 _ _ ?_
         refine wp_cond_true rfl ?_
         refine wp_seq_k (fun K229 hK229 => ?_)
         refine wp_region_lit ?_
         refine wpList_plain rfl (fun Ko hKo => ?_)
         go_simp
         refine hKo _ _ ?_
         clear hKo Ko
         try simp only [Act.put, nm1, nm2, nm3, i64_w]
         have cl0 := hb211.cell (o := 0) rfl
         have cl1 := hb211.cell (o := 1) rfl
         have cl2 := hb211.cell (o := 2) rfl
         have cl3 := hb211.cell (o := 3) rfl
         have cl4 := hb211.cell (o := 4) rfl
         have cl5 := hb211.cell (o := 5) rfl
         refine wpList_plain rfl (fun Ko hKo => ?_)
         go_simp
         refine hKo _ _ ?_
         clear hKo Ko
         clear cl0 cl1 cl2 cl3 cl4 cl5
         try simp only [Act.put, nm1, nm2, nm3, i64_w]
         have cl0 := h223.cell (o := 0) rfl
         have cl1 := h223.cell (o := 1) rfl
         refine wpList_plain rfl (fun Ko hKo => ?_)
         go_simp
         refine hKo _ _ ?_
         clear hKo Ko
         clear cl0 cl1
         try simp only [Act.put, nm1, nm2, nm3, i64_w]
         refine step_call (wanted_none rfl) (by first | (go_simp; done) | (go_simp; rfl)) (impl_MovePoint.calls K t30 t196 t197 t198 t199 t200 t201 t52 t60 t230 t231 t232 w209  A233.out) ?_
         rintro e w234 ⟨rfl, hu⟩
         have hu235 := Aside0.mk hu
         clear hu
         refine ⟨_, rfl, ?_⟩
         simp only [Act.put, nm1, nm2, nm3, i64_w]
         refine wpList_plain rfl (fun Ko hKo => ?_)
         go_simp
         refine hKo _ _ ?_
         clear hKo Ko
         try simp only [Act.put, nm1, nm2, nm3, i64_w]
         refine wpList_plain rfl (fun Ko hKo => ?_)
         go_simp
         refine hKo _ _ ?_
         clear hKo Ko
         try simp only [Act.put, nm1, nm2, nm3, i64_w]
         refine wpList_plain rfl (fun Ko hKo => ?_)
         go_simp
         refine hKo _ _ ?_
         clear hKo Ko
         try simp only [Act.put, nm1, nm2, nm3, i64_w]
         refine step_new (cs := [.int .i64 0, .int .i64 0]) (T := 30) (f := fun b => .pointer (some ⟨b, 0, none⟩)) rfl (by first | (go_simp; done) | (go_simp; rfl)) ?_
         intro b236 w237 hu lb hb236
         simp only [Act.put, nm1, nm2, nm3, i64_w]
         have lbb236 := Aside0.mk lb
         have ltb236 := Aside0.mk hb236.lt
         clear lb
         have hu238 := Aside0.mk hu
         clear hu
         have hB0 := hb236
         have cl0 := hB0.cell (o := 0) rfl
         have fr0 := hB0.free 0
         have cl1 := hB0.cell (o := 1) rfl
         have fr1 := hB0.free 1
         refine step_store (b := b236) (cs' := [.int .i64 t230, .int .i64 t231]) (T := 30) (W' := ((w237.setCell ⟨b236, 0, none⟩ (.int .i64 t230)).setCell ⟨b236, 1, none⟩ (.int .i64 t231))) rfl rfl (by first | (go_simp; done) | (go_simp; rfl)) (((Sto.refl _ _).setCell 0 _).setCell 1 _) (((hB0).setCell 0 _).setCell 1 _) ?_
         clear hB0 cl0 fr0 cl1 fr1
         intro w239 hs hb241
         have hs240 := Aside0.mk hs
         clear hs
         refine wpList_plain rfl (fun Ko hKo => ?_)
         go_simp
         refine hKo _ _ ?_
         clear hKo Ko
         try simp only [Act.put, nm1, nm2, nm3, i64_w]
         refine wpList_nil ?_
         (try simp only [Exit.then, Exit.inBlock, ↓reduceIte, Nat.reduceEqDiff])
         refine hK229 _ _ ?_
         refine wp_seq_k (fun K242 hK242 => ?_)
         refine wp_region_lit ?_
         refine wpList_plain rfl (fun Ko hKo => ?_)
         go_simp
         refine hKo _ _ ?_
         clear hKo Ko
         try simp only [Act.put, nm1, nm2, nm3, i64_w]
         have cl0 := (hb211.up ((hu235.out.trans hu238.out).sto (Nat.le_trans (hu235.out.size) lbb236.out) hs240.out)).cell (o := 0) rfl
         have cl1 := (hb211.up ((hu235.out.trans hu238.out).sto (Nat.le_trans (hu235.out.size) lbb236.out) hs240.out)).cell (o := 1) rfl
         have cl2 := (hb211.up ((hu235.out.trans hu238.out).sto (Nat.le_trans (hu235.out.size) lbb236.out) hs240.out)).cell (o := 2) rfl
         have cl3 := (hb211.up ((hu235.out.trans hu238.out).sto (Nat.le_trans (hu235.out.size) lbb236.out) hs240.out)).cell (o := 3) rfl
         have cl4 := (hb211.up ((hu235.out.trans hu238.out).sto (Nat.le_trans (hu235.out.size) lbb236.out) hs240.out)).cell (o := 4) rfl
         have cl5 := (hb211.up ((hu235.out.trans hu238.out).sto (Nat.le_trans (hu235.out.size) lbb236.out) hs240.out)).cell (o := 5) rfl
         refine wpList_plain rfl (fun Ko hKo => ?_)
         go_simp
         refine hKo _ _ ?_
         clear hKo Ko
         clear cl0 cl1 cl2 cl3 cl4 cl5
         try simp only [Act.put, nm1, nm2, nm3, i64_w]
         have cl0 := (h224.up ((hu235.out.trans hu238.out).sto (Nat.le_trans (hu235.out.size) lbb236.out) hs240.out)).cell (o := 0) rfl
         have cl1 := (h224.up ((hu235.out.trans hu238.out).sto (Nat.le_trans (hu235.out.size) lbb236.out) hs240.out)).cell (o := 1) rfl
         refine wpList_plain rfl (fun Ko hKo => ?_)
         go_simp
         refine hKo _ _ ?_
         clear hKo Ko
         clear cl0 cl1
         try simp only [Act.put, nm1, nm2, nm3, i64_w]
         refine step_call (wanted_none rfl) (by first | (go_simp; done) | (go_simp; rfl)) (impl_MovePoint.calls K t30 t196 t197 t198 t199 t200 t201 t68 t76 t243 t244 t245 w239  A246.out) ?_
         rintro e w247 ⟨rfl, hu⟩
         have hu248 := Aside0.mk hu
         clear hu
         refine ⟨_, rfl, ?_⟩
         simp only [Act.put, nm1, nm2, nm3, i64_w]
         refine wpList_plain rfl (fun Ko hKo => ?_)
         go_simp
         refine hKo _ _ ?_
         clear hKo Ko
         try simp only [Act.put, nm1, nm2, nm3, i64_w]
         refine wpList_plain rfl (fun Ko hKo => ?_)
         go_simp
         refine hKo _ _ ?_
         clear hKo Ko
         try simp only [Act.put, nm1, nm2, nm3, i64_w]
         refine wpList_plain rfl (fun Ko hKo => ?_)
         go_simp
         refine hKo _ _ ?_
         clear hKo Ko
         try simp only [Act.put, nm1, nm2, nm3, i64_w]
         refine step_new (cs := [.int .i64 0, .int .i64 0]) (T := 30) (f := fun b => .pointer (some ⟨b, 0, none⟩)) rfl (by first | (go_simp; done) | (go_simp; rfl)) ?_
         intro b249 w250 hu lb hb249
         simp only [Act.put, nm1, nm2, nm3, i64_w]
         have lbb249 := Aside0.mk lb
         have ltb249 := Aside0.mk hb249.lt
         clear lb
         have hu251 := Aside0.mk hu
         clear hu
         have hB0 := hb249
         have cl0 := hB0.cell (o := 0) rfl
         have fr0 := hB0.free 0
         have cl1 := hB0.cell (o := 1) rfl
         have fr1 := hB0.free 1
         refine step_store (b := b249) (cs' := [.int .i64 t243, .int .i64 t244]) (T := 30) (W' := ((w250.setCell ⟨b249, 0, none⟩ (.int .i64 t243)).setCell ⟨b249, 1, none⟩ (.int .i64 t244))) rfl rfl (by first | (go_simp; done) | (go_simp; rfl)) (((Sto.refl _ _).setCell 0 _).setCell 1 _) (((hB0).setCell 0 _).setCell 1 _) ?_
         clear hB0 cl0 fr0 cl1 fr1
         intro w252 hs hb254
         have hs253 := Aside0.mk hs
         clear hs
         refine wpList_plain rfl (fun Ko hKo => ?_)
         go_simp
         refine hKo _ _ ?_
         clear hKo Ko
         try simp only [Act.put, nm1, nm2, nm3, i64_w]
         refine wpList_nil ?_
         (try simp only [Exit.then, Exit.inBlock, ↓reduceIte, Nat.reduceEqDiff])
         refine hK242 _ _ ?_
         as_aux_lemma =>
         refine wp_seq_k (fun K255 hK255 => ?_)
         refine wp_region_lit ?_
         refine wpList_plain rfl (fun Ko hKo => ?_)
         go_simp
         refine hKo _ _ ?_
         clear hKo Ko
         try simp only [Act.put, nm1, nm2, nm3, i64_w]
         refine wpList_plain rfl (fun Ko hKo => ?_)
         go_simp
         refine hKo _ _ ?_
         clear hKo Ko
         try simp only [Act.put, nm1, nm2, nm3, i64_w]
         have cl0 := (hb241.up ((hu248.out.trans hu251.out).sto (Nat.le_trans (hu248.out.size) lbb249.out) hs253.out)).cell (o := 0) rfl
         have cl1 := (hb241.up ((hu248.out.trans hu251.out).sto (Nat.le_trans (hu248.out.size) lbb249.out) hs253.out)).cell (o := 1) rfl
         refine wpList_plain rfl (fun Ko hKo => ?_)
         go_simp
         refine hKo _ _ ?_
         clear hKo Ko
         clear cl0 cl1
         try simp only [Act.put, nm1, nm2, nm3, i64_w]
         have cl0 := hb254.cell (o := 0) rfl
         have cl1 := hb254.cell (o := 1) rfl
         refine wpList_plain rfl (fun Ko hKo => ?_)
         go_simp
         refine hKo _ _ ?_
         clear hKo Ko
         clear cl0 cl1
         try simp only [Act.put, nm1, nm2, nm3, i64_w]
         refine step_call (wanted_none rfl) (by first | (go_simp; done) | (go_simp; rfl)) (impl_Quadrance.calls K t30 x110 t230 t231 t243 t244 t256 t257 w252  A258.out) ?_
         rintro e w259 ⟨rfl, hu⟩
         have hu260 := Aside0.mk hu
         clear hu
         refine ⟨_, rfl, ?_⟩
         simp only [Act.put, nm1, nm2, nm3, i64_w]
         refine wpList_plain rfl (fun Ko hKo => ?_)
         go_simp
         refine hKo _ _ ?_
         clear hKo Ko
         try simp only [Act.put, nm1, nm2, nm3, i64_w]
         refine wpList_plain rfl (fun Ko hKo => ?_)
         go_simp
         refine hKo _ _ ?_
         clear hKo Ko
         try simp only [Act.put, nm1, nm2, nm3, i64_w]
         refine wpList_plain rfl (fun Ko hKo => ?_)
         go_simp
         refine hKo _ _ ?_
         clear hKo Ko
         try simp only [Act.put, nm1, nm2, nm3, i64_w]
         refine wpList_plain rfl (fun Ko hKo => ?_)
         go_simp
         refine hKo _ _ ?_
         clear hKo Ko
         try simp only [Act.put, nm1, nm2, nm3, i64_w]
         refine wpList_plain rfl (fun Ko hKo => ?_)
         go_simp
         refine hKo _ _ ?_
         clear hKo Ko
         try simp only [Act.put, nm1, nm2, nm3, i64_w]
         refine wpList_nil ?_
         (try simp only [Exit.then, Exit.inBlock, ↓reduceIte, Nat.reduceEqDiff])
         refine hK255 _ _ ?_
         refine wp_seq_k (fun K261 hK261 => ?_)
         refine wp_region_lit ?_
         refine wpList_plain rfl (fun Ko hKo => ?_)
         go_simp
         refine hKo _ _ ?_
         clear hKo Ko
         try simp only [Act.put, nm1, nm2, nm3, i64_w]
         refine wpList_plain rfl (fun Ko hKo => ?_)
         go_simp
         refine hKo _ _ ?_
         clear hKo Ko
         try simp only [Act.put, nm1, nm2, nm3, i64_w]
         refine wpList_plain rfl (fun Ko hKo => ?_)
         go_simp
         refine hKo _ _ ?_
         clear hKo Ko
         try simp only [Act.put, nm1, nm2, nm3, i64_w]
         have hm263 := Aside0.mk (((((((hm215.out.trans hu235.out).trans hu238.out).sto (Nat.le_trans ((Nat.le_trans (hm216.out) hu235.out.size)) lbb236.out) hs240.out).trans hu248.out).trans hu251.out).sto (Nat.le_trans ((Nat.le_trans ((Nat.le_trans ((Nat.le_trans ((Nat.le_trans (hm216.out) hu235.out.size)) hu238.out.size)) (Nat.le_of_eq hs240.out.size.symm))) hu248.out.size)) lbb249.out) hs253.out).trans hu260.out)
         have hm264 := Aside0.mk (Nat.le_trans ((Nat.le_trans ((Nat.le_trans ((Nat.le_trans ((Nat.le_trans ((Nat.le_trans ((Nat.le_trans (hm216.out) hu235.out.size)) hu238.out.size)) (Nat.le_of_eq hs240.out.size.symm))) hu248.out.size)) hu251.out.size)) (Nat.le_of_eq hs253.out.size.symm))) hu260.out.size)
         have hm265 := Aside0.mk (((((((hm217.out.trans hu235.out).trans hu238.out).sto (Nat.le_trans ((Nat.le_trans (hm218.out) hu235.out.size)) lbb236.out) hs240.out).trans hu248.out).trans hu251.out).sto (Nat.le_trans ((Nat.le_trans ((Nat.le_trans ((Nat.le_trans ((Nat.le_trans (hm218.out) hu235.out.size)) hu238.out.size)) (Nat.le_of_eq hs240.out.size.symm))) hu248.out.size)) lbb249.out) hs253.out).trans hu260.out)
         have hm266 := Aside0.mk (Nat.le_trans ((Nat.le_trans ((Nat.le_trans ((Nat.le_trans ((Nat.le_trans ((Nat.le_trans ((Nat.le_trans (hm218.out) hu235.out.size)) hu238.out.size)) (Nat.le_of_eq hs240.out.size.symm))) hu248.out.size)) hu251.out.size)) (Nat.le_of_eq hs253.out.size.symm))) hu260.out.size)
         have hm267 := Aside0.mk (Nat.le_trans ((Nat.le_trans ((Nat.le_trans ((Nat.le_trans ((Nat.le_trans ((Nat.le_trans ((Nat.le_trans (hm219.out) hu235.out.size)) hu238.out.size)) (Nat.le_of_eq hs240.out.size.symm))) hu248.out.size)) hu251.out.size)) (Nat.le_of_eq hs253.out.size.symm))) hu260.out.size)
         have h268 := (h220.up ((((((hu235.out.trans hu238.out).sto (Nat.le_trans (hu235.out.size) lbb236.out) hs240.out).trans hu248.out).trans hu251.out).sto (Nat.le_trans ((Nat.le_trans ((Nat.le_trans ((Nat.le_trans (hu235.out.size) hu238.out.size)) (Nat.le_of_eq hs240.out.size.symm))) hu248.out.size)) lbb249.out) hs253.out).trans hu260.out))
         have h269 := (h221.up ((((((hu235.out.trans hu238.out).sto (Nat.le_trans (hu235.out.size) lbb236.out) hs240.out).trans hu248.out).trans hu251.out).sto (Nat.le_trans ((Nat.le_trans ((Nat.le_trans ((Nat.le_trans (hu235.out.size) hu238.out.size)) (Nat.le_of_eq hs240.out.size.symm))) hu248.out.size)) lbb249.out) hs253.out).trans hu260.out))
         have h270 := (h222.up ((((((hu235.out.trans hu238.out).sto (Nat.le_trans (hu235.out.size) lbb236.out) hs240.out).trans hu248.out).trans hu251.out).sto (Nat.le_trans ((Nat.le_trans ((Nat.le_trans ((Nat.le_trans (hu235.out.size) hu238.out.size)) (Nat.le_of_eq hs240.out.size.symm))) hu248.out.size)) lbb249.out) hs253.out).trans hu260.out))
         have h271 := (h223.up ((((((hu235.out.trans hu238.out).sto (Nat.le_trans (hu235.out.size) lbb236.out) hs240.out).trans hu248.out).trans hu251.out).sto (Nat.le_trans ((Nat.le_trans ((Nat.le_trans ((Nat.le_trans (hu235.out.size) hu238.out.size)) (Nat.le_of_eq hs240.out.size.symm))) hu248.out.size)) lbb249.out) hs253.out).trans hu260.out))
         have h272 := (h224.up ((((((hu235.out.trans hu238.out).sto (Nat.le_trans (hu235.out.size) lbb236.out) hs240.out).trans hu248.out).trans hu251.out).sto (Nat.le_trans ((Nat.le_trans ((Nat.le_trans ((Nat.le_trans (hu235.out.size) hu238.out.size)) (Nat.le_of_eq hs240.out.size.symm))) hu248.out.size)) lbb249.out) hs253.out).trans hu260.out))
         have h273 := (h225.up ((((((hu235.out.trans hu238.out).sto (Nat.le_trans (hu235.out.size) lbb236.out) hs240.out).trans hu248.out).trans hu251.out).sto (Nat.le_trans ((Nat.le_trans ((Nat.le_trans ((Nat.le_trans (hu235.out.size) hu238.out.size)) (Nat.le_of_eq hs240.out.size.symm))) hu248.out.size)) lbb249.out) hs253.out).trans hu260.out))
         have h274 := (hb211.up ((((((hu235.out.trans hu238.out).sto (Nat.le_trans (hu235.out.size) lbb236.out) hs240.out).trans hu248.out).trans hu251.out).sto (Nat.le_trans ((Nat.le_trans ((Nat.le_trans ((Nat.le_trans (hu235.out.size) hu238.out.size)) (Nat.le_of_eq hs240.out.size.symm))) hu248.out.size)) lbb249.out) hs253.out).trans hu260.out))
         have h275 := (hb241.up (((hu248.out.trans hu251.out).sto (Nat.le_trans (hu248.out.size) lbb249.out) hs253.out).trans hu260.out))
         by_cases c262 : (t232 == 0) = true
         ·
          rw [if_pos c262] at H
          have c262n : (t232 != 0) = false := by rw [bne, c262]; rfl
          try simp only [c262, c262n, Bool.not_true, Bool.not_false]
          refine wpList_step (fun Ko hKo => ?_)
          go_simp
          refine hKo _ _ ?_
          clear hKo Ko
          try simp only [Act.put, nm1, nm2, nm3, i64_w]
          refine wpList_step (fun Ko hKo => ?_)
          go_simp
          refine hKo _ _ ?_
          clear hKo Ko
          try simp only [Act.put, nm1, nm2, nm3, i64_w]
          refine wpList_plain rfl (fun Ko hKo => ?_)
          go_simp
          refine hKo _ _ ?_
          clear hKo Ko
          try simp only [Act.put, nm1, nm2, nm3, i64_w]
          refine wpList_plain rfl (fun Ko hKo => ?_)
          go_simp
          refine hKo _ _ ?_
          clear hKo Ko
          try simp only [Act.put, nm1, nm2, nm3, i64_w]
          by_cases c276 : (t245 == 0) = true
          ·
           rw [if_pos c276] at H
           have c276n : (t245 != 0) = false := by rw [bne, c276]; rfl
           try simp only [c276, c276n, Bool.not_true, Bool.not_false]
           refine wpList_step (fun Ko hKo => ?_)
           go_simp
           refine hKo _ _ ?_
           clear hKo Ko
           try simp only [Act.put, nm1, nm2, nm3, i64_w]
           refine wpList_step (fun Ko hKo => ?_)
           go_simp
           refine hKo _ _ ?_
           clear hKo Ko
           try simp only [Act.put, nm1, nm2, nm3, i64_w]
           refine wpList_plain rfl (fun Ko hKo => ?_)
           go_simp
           refine hKo _ _ ?_
           clear hKo Ko
           try simp only [Act.put, nm1, nm2, nm3, i64_w]
           refine wpList_plain rfl (fun Ko hKo => ?_)
           go_simp
           refine hKo _ _ ?_
           clear hKo Ko
           try simp only [Act.put, nm1, nm2, nm3, i64_w]
           by_cases c277 : (t257 == 0) = true
           ·
            rw [if_pos c277] at H
            have c277n : (t257 != 0) = false := by rw [bne, c277]; rfl
            try simp only [c277, c277n, Bool.not_true, Bool.not_false]
            refine wpList_step (fun Ko hKo => ?_)
            go_simp
            refine hKo _ _ ?_
            clear hKo Ko
            try simp only [Act.put, nm1, nm2, nm3, i64_w]
            refine wpList_step (fun Ko hKo => ?_)
            go_simp
            refine hKo _ _ ?_
            clear hKo Ko
            try simp only [Act.put, nm1, nm2, nm3, i64_w]
            refine wpList_step (fun Ko hKo => ?_)
            go_simp
            refine hKo _ _ ?_
            clear hKo Ko
            try simp only [Act.put, nm1, nm2, nm3, i64_w]
            refine wpList_plain rfl (fun Ko hKo => ?_)
            go_simp
            refine hKo _ _ ?_
            clear hKo Ko
            try simp only [Act.put, nm1, nm2, nm3, i64_w]
            refine wpList_nil ?_
            (try simp only [Exit.then, Exit.inBlock, ↓reduceIte, Nat.reduceEqDiff])
            refine hK261 _ _ ?_
            as_aux_lemma =>
            by_cases c278 : (t256 == t134) = true
            ·
             rw [if_pos c278] at H
             have c278n : (t256 != t134) = false := by rw [bne, c278]; rfl
             replace H := Option.bind_eq_some_iff.mp H
             obtain ⟨⟨t280, t283⟩, A284, H⟩ := H
             replace A284 := Aside0.mk A284
             try dsimp only at H
             replace H := Option.bind_eq_some_iff.mp H
             obtain ⟨⟨t288, t289⟩, A290, H⟩ := H
             replace A290 := Aside0.mk A290
             try dsimp only at H
             try simp only [c278, c278n, Bool.not_true, Bool.not_false]
             refine wp_cond_false rfl ?_
             refine wp_skip ?_
             (try simp only [Exit.then, Exit.inBlock, ↓reduceIte, Nat.reduceEqDiff])
             refine hK227 _ _ ?_
             refine wp_seq_k (fun K279 hK279 => ?_)
             refine wp_region_lit ?_
             refine wpList_plain rfl (fun Ko hKo => ?_)
             go_simp
             refine hKo _ _ ?_
             clear hKo Ko
             try simp only [Act.put, nm1, nm2, nm3, i64_w]
             refine wpList_plain rfl (fun Ko hKo => ?_)
             go_simp
             refine hKo _ _ ?_
             clear hKo Ko
             try simp only [Act.put, nm1, nm2, nm3, i64_w]
             have cl0 := h270.cell (o := 0) rfl
             have cl1 := h270.cell (o := 1) rfl
             refine wpList_plain rfl (fun Ko hKo => ?_)
             go_simp
             refine hKo _ _ ?_
             clear hKo Ko
             clear cl0 cl1
             try simp only [Act.put, nm1, nm2, nm3, i64_w]
             have cl0 := h271.cell (o := 0) rfl
             have cl1 := h271.cell (o := 1) rfl
             refine wpList_plain rfl (fun Ko hKo => ?_)
             go_simp
             refine hKo _ _ ?_
             clear hKo Ko
             clear cl0 cl1
             try simp only [Act.put, nm1, nm2, nm3, i64_w]
             have cl0 := h272.cell (o := 0) rfl
             have cl1 := h272.cell (o := 1) rfl
             refine wpList_plain rfl (fun Ko hKo => ?_)
             go_simp
             refine hKo _ _ ?_
             clear hKo Ko
             clear cl0 cl1
             try simp only [Act.put, nm1, nm2, nm3, i64_w]
             refine step_call (wanted_none rfl) (by first | (go_simp; done) | (go_simp; rfl)) (impl_SpreadsOfTriangle.calls K t30 x110 t36 t44 t52 t60 t68 t76 t280 t283 w259  A284.out) ?_
             rintro e w285 ⟨P281, q282, rfl, ht280, hu⟩
             have hu286 := Aside0.mk hu
             clear hu
             refine ⟨_, rfl, ?_⟩
             simp only [Act.put, nm1, nm2, nm3, i64_w]
             refine wpList_plain rfl (fun Ko hKo => ?_)
             go_simp
             refine hKo _ _ ?_
             clear hKo Ko
             try simp only [Act.put, nm1, nm2, nm3, i64_w]
             refine wpList_plain rfl (fun Ko hKo => ?_)
             go_simp
             refine hKo _ _ ?_
             clear hKo Ko
             try simp only [Act.put, nm1, nm2, nm3, i64_w]
             refine wpList_plain rfl (fun Ko hKo => ?_)
             go_simp
             refine hKo _ _ ?_
             clear hKo Ko
             try simp only [Act.put, nm1, nm2, nm3, i64_w]
             refine wpList_plain rfl (fun Ko hKo => ?_)
             go_simp
             refine hKo _ _ ?_
             clear hKo Ko
             try simp only [Act.put, nm1, nm2, nm3, i64_w]
             refine wpList_plain rfl (fun Ko hKo => ?_)
             go_simp
             refine hKo _ _ ?_
             clear hKo Ko
             try simp only [Act.put, nm1, nm2, nm3, i64_w]
             refine wpList_nil ?_
             (try simp only [Exit.then, Exit.inBlock, ↓reduceIte, Nat.reduceEqDiff])
             refine hK279 _ _ ?_
             refine wp_seq_k (fun K287 hK287 => ?_)
             refine wp_region_lit ?_
             refine wpList_plain rfl (fun Ko hKo => ?_)
             go_simp
             refine hKo _ _ ?_
             clear hKo Ko
             try simp only [Act.put, nm1, nm2, nm3, i64_w]
             have cl0 := (h270.up hu286.out).cell (o := 0) rfl
             have cl1 := (h270.up hu286.out).cell (o := 1) rfl
             refine wpList_plain rfl (fun Ko hKo => ?_)
             go_simp
             refine hKo _ _ ?_
             clear hKo Ko
             clear cl0 cl1
             try simp only [Act.put, nm1, nm2, nm3, i64_w]
             have cl0 := (h271.up hu286.out).cell (o := 0) rfl
             have cl1 := (h271.up hu286.out).cell (o := 1) rfl
             refine wpList_plain rfl (fun Ko hKo => ?_)
             go_simp
             refine hKo _ _ ?_
             clear hKo Ko
             clear cl0 cl1
             try simp only [Act.put, nm1, nm2, nm3, i64_w]
             have cl0 := (h272.up hu286.out).cell (o := 0) rfl
             have cl1 := (h272.up hu286.out).cell (o := 1) rfl
             refine wpList_plain rfl (fun Ko hKo => ?_)
             go_simp
             refine hKo _ _ ?_
             clear hKo Ko
             clear cl0 cl1
             try simp only [Act.put, nm1, nm2, nm3, i64_w]
             refine step_call (wanted_none rfl) (by first | (go_simp; done) | (go_simp; rfl)) (impl_DoubledArea.calls K t30 t36 t44 t52 t60 t68 t76 t288 t289 w285  A290.out) ?_
             rintro e w291 ⟨rfl, hu⟩
             have hu292 := Aside0.mk hu
             clear hu
             refine ⟨_, rfl, ?_⟩
             simp only [Act.put, nm1, nm2, nm3, i64_w]
             refine wpList_plain rfl (fun Ko hKo => ?_)
             go_simp
             refine hKo _ _ ?_
             clear hKo Ko
             try simp only [Act.put, nm1, nm2, nm3, i64_w]
             refine wpList_plain rfl (fun Ko hKo => ?_)
             go_simp
             refine hKo _ _ ?_
             clear hKo Ko
             try simp only [Act.put, nm1, nm2, nm3, i64_w]
             refine wpList_plain rfl (fun Ko hKo => ?_)
             go_simp
             refine hKo _ _ ?_
             clear hKo Ko
             try simp only [Act.put, nm1, nm2, nm3, i64_w]
             refine wpList_plain rfl (fun Ko hKo => ?_)
             go_simp
             refine hKo _ _ ?_
             clear hKo Ko
             try simp only [Act.put, nm1, nm2, nm3, i64_w]
             refine wpList_plain rfl (fun Ko hKo => ?_)
             go_simp
             refine hKo _ _ ?_
             clear hKo Ko
             try simp only [Act.put, nm1, nm2, nm3, i64_w]
             refine wpList_nil ?_
             (try simp only [Exit.then, Exit.inBlock, ↓reduceIte, Nat.reduceEqDiff])
             refine hK287 _ _ ?_
             as_aux_lemma =>
             refine wp_seq_k (fun K293 hK293 => ?_)
             refine wp_seq_k (fun K294 hK294 => ?_)
             refine wp_region_lit ?_
             refine wpList_plain rfl (fun Ko hKo => ?_)
             go_simp
             refine hKo _ _ ?_
             clear hKo Ko
             try simp only [Act.put, nm1, nm2, nm3, i64_w]
             refine wpList_plain rfl (fun Ko hKo => ?_)
             go_simp
             refine hKo _ _ ?_
             clear hKo Ko
             try simp only [Act.put, nm1, nm2, nm3, i64_w]
             refine wpList_plain rfl (fun Ko hKo => ?_)
             go_simp
             refine hKo _ _ ?_
             clear hKo Ko
             try simp only [Act.put, nm1, nm2, nm3, i64_w]
             by_cases c295 : (t289 == 0) = true
             ·
              rw [if_pos c295] at H
              have c295n : (t289 != 0) = false := by rw [bne, c295]; rfl
              try simp only [c295, c295n, Bool.not_true, Bool.not_false]
              refine wpList_step (fun Ko hKo => ?_)
              go_simp
              refine hKo _ _ ?_
              clear hKo Ko
              try simp only [Act.put, nm1, nm2, nm3, i64_w]
              refine wpList_step (fun Ko hKo => ?_)
              go_simp
              refine hKo _ _ ?_
              clear hKo Ko
              try simp only [Act.put, nm1, nm2, nm3, i64_w]
              refine wpList_step (fun Ko hKo => ?_)
              go_simp
              refine hKo _ _ ?_
              clear hKo Ko
              try simp only [Act.put, nm1, nm2, nm3, i64_w]
              refine wpList_step (fun Ko hKo => ?_)
              go_simp
              refine hKo _ _ ?_
              clear hKo Ko
              try simp only [Act.put, nm1, nm2, nm3, i64_w]
              refine wpList_step (fun Ko hKo => ?_)
              go_simp
              refine hKo _ _ ?_
              clear hKo Ko
              try simp only [Act.put, nm1, nm2, nm3, i64_w]
              by_cases c296 : (t288 == 0) = true
              ·
               rw [if_pos c296] at H
               have c296n : (t288 != 0) = false := by rw [bne, c296]; rfl
               try simp only [c296, c296n, Bool.not_true, Bool.not_false]
               refine step_no rfl ?_
               simp only [Act.put, nm1, nm2, nm3, i64_w]
               refine step_no rfl ?_
               simp only [Act.put, nm1, nm2, nm3, i64_w]
               refine wpList_step (fun Ko hKo => ?_)
               go_simp
               refine hKo _ _ ?_
               clear hKo Ko
               try simp only [Act.put, nm1, nm2, nm3, i64_w]
               refine wpList_step (fun Ko hKo => ?_)
               go_simp
               refine hKo _ _ ?_
               clear hKo Ko
               try simp only [Act.put, nm1, nm2, nm3, i64_w]
               refine step_no rfl ?_
               simp only [Act.put, nm1, nm2, nm3, i64_w]
               refine step_no rfl ?_
               simp only [Act.put, nm1, nm2, nm3, i64_w]
               refine wpList_step (fun Ko hKo => ?_)
               go_simp
               refine hKo _ _ ?_
               clear hKo Ko
               try simp only [Act.put, nm1, nm2, nm3, i64_w]
               refine wpList_step (fun Ko hKo => ?_)
               go_simp
               refine hKo _ _ ?_
               clear hKo Ko
               try simp only [Act.put, nm1, nm2, nm3, i64_w]
               refine step_no rfl ?_
               simp only [Act.put, nm1, nm2, nm3, i64_w]
               refine step_no rfl ?_
               simp only [Act.put, nm1, nm2, nm3, i64_w]
               refine wpList_step (fun Ko hKo => ?_)
               go_simp
               refine hKo _ _ ?_
               clear hKo Ko
               try simp only [Act.put, nm1, nm2, nm3, i64_w]
               by_cases c297 : (t283 == 0) = true
               ·
                rw [if_pos c297] at H
                have c297n : (t283 != 0) = false := by rw [bne, c297]; rfl
                obtain rfl := Option.some.inj H
                try simp only [c297, c297n, Bool.not_true, Bool.not_false]
                refine wpList_step (fun Ko hKo => ?_)
                go_simp
                refine hKo _ _ ?_
                clear hKo Ko
                try simp only [Act.put, nm1, nm2, nm3, i64_w]
                refine wpList_plain rfl (fun Ko hKo => ?_)
                go_simp
                refine hKo _ _ ?_
                clear hKo Ko
                try simp only [Act.put, nm1, nm2, nm3, i64_w]
                refine wpList_nil ?_
                (try simp only [Exit.then, Exit.inBlock, ↓reduceIte, Nat.reduceEqDiff])
                refine hK294 _ _ ?_
                refine wp_cond_true rfl ?_
                refine wp_seq_k (fun K298 hK298 => ?_)
                refine wp_region_lit ?_
                refine wpList_plain rfl (fun Ko hKo => ?_)
                go_simp
                refine hKo _ _ ?_
                clear hKo Ko
                try simp only [Act.put, nm1, nm2, nm3, i64_w]
                refine wpList_nil ?_
                (try simp only [Exit.then, Exit.inBlock, ↓reduceIte, Nat.reduceEqDiff])
                refine hK298 _ _ ?_
                as_aux_lemma =>
                refine wp_ret ?_
                (try simp only [Exit.then, Exit.inBlock, ↓reduceIte, Nat.reduceEqDiff])
                refine hQf _ _ _ ?_
                exact bodyPost_ret (v := .bool false) (by first | rfl | (simp [results, Try.results3, go_sem]; done) | (simp [results, Try.results3, go_sem]; rfl)) rfl ⟨rfl, ((hm263.out.trans hu286.out).trans hu292.out)⟩
               ·
                rw [if_neg c297] at H
                replace c297 := Bool.eq_false_iff.mpr c297
                have c297n : (t283 != 0) = true := by rw [bne, c297]; rfl
                have c297p : ¬ t283 = 0 := fun e => by simp [e] at c297
                have HL301 := Aside0.mk H
                clear H
                try simp only [c297, c297n, Bool.not_true, Bool.not_false]
                refine wpList_step (fun Ko hKo => ?_)
                go_simp
                refine hKo _ _ ?_
                clear hKo Ko
                try simp only [Act.put, nm1, nm2, nm3, i64_w]
                refine wpList_plain rfl (fun Ko hKo => ?_)
                go_simp
                refine hKo _ _ ?_
                clear hKo Ko
                try simp only [Act.put, nm1, nm2, nm3, i64_w]
                refine wpList_nil ?_
                (try simp only [Exit.then, Exit.inBlock, ↓reduceIte, Nat.reduceEqDiff])
                refine hK294 _ _ ?_
                refine wp_cond_false rfl ?_
                refine wp_skip ?_
                (try simp only [Exit.then, Exit.inBlock, ↓reduceIte, Nat.reduceEqDiff])
                refine hK293 _ _ ?_
                refine wp_seq_k (fun K299 hK299 => ?_)
                refine wp_seq_k (fun K300 hK300 => ?_)
                refine wp_region_lit ?_
                refine wpList_plain rfl (fun Ko hKo => ?_)
                go_simp
                refine hKo _ _ ?_
                clear hKo Ko
                try simp only [Act.put, nm1, nm2, nm3, i64_w]
                refine wpList_plain rfl (fun Ko hKo => ?_)
                go_simp
                refine hKo _ _ ?_
                clear hKo Ko
                try simp only [Act.put, nm1, nm2, nm3, i64_w]
                refine wpList_nil ?_
                (try simp only [Exit.then, Exit.inBlock, ↓reduceIte, Nat.reduceEqDiff])
                refine hK300 _ _ ?_
                refine wp_cond_true rfl ?_
                refine wp_exit ?_
                (try simp only [Exit.then, Exit.inBlock, ↓reduceIte, Nat.reduceEqDiff])
                refine hK132 _ _ ?_
                refine wp_region_lit ?_
                refine wpList_plain rfl (fun Ko hKo => ?_)
                go_simp
                refine hKo _ _ ?_
                clear hKo Ko
                try simp only [Act.put, nm1, nm2, nm3, i64_w]
                refine wpList_plain rfl (fun Ko hKo => ?_)
                go_simp
                refine hKo _ _ ?_
                clear hKo Ko
                try simp only [Act.put, nm1, nm2, nm3, i64_w]
                refine wpList_plain rfl (fun Ko hKo => ?_)
                go_simp
                refine hKo _ _ ?_
                clear hKo Ko
                try simp only [Act.put, nm1, nm2, nm3, i64_w]
                refine wpList_nil ?_
                (try simp only [Exit.then, Exit.inBlock, ↓reduceIte, Nat.reduceEqDiff])
                refine hK126 _ _ ?_
                go_roundg k122
                case measure => exact Nat.lt_succ_self _
                case rel => exact ⟨wrap64 (x110 + 1), t172, t173, (by first | rfl | simp), HL301, ⟨by have := hk123.out; omega⟩, ⟨((hm265.out.trans hu286.out).trans hu292.out)⟩, ⟨(Nat.le_trans ((Nat.le_trans (hm267.out) hu286.out.size)) hu292.out.size)⟩, (h268.up (hu286.out.trans hu292.out)), (h269.up (hu286.out.trans hu292.out)), (h270.up (hu286.out.trans hu292.out)), (h271.up (hu286.out.trans hu292.out)), (h272.up (hu286.out.trans hu292.out))⟩
              ·
               rw [if_neg c296] at H
               replace c296 := Bool.eq_false_iff.mpr c296
               have c296n : (t288 != 0) = true := by rw [bne, c296]; rfl
               have c296p : ¬ t288 = 0 := fun e => by simp [e] at c296
               try simp only [c296, c296n, Bool.not_true, Bool.not_false]
               refine wpList_step (fun Ko hKo => ?_)
               go_simp
               refine hKo _ _ ?_
               clear hKo Ko
               try simp only [Act.put, nm1, nm2, nm3, i64_w]
               refine wpList_step (fun Ko hKo => ?_)
               go_simp
               refine hKo _ _ ?_
               clear hKo Ko
               try simp only [Act.put, nm1, nm2, nm3, i64_w]
               refine wpList_step (fun Ko hKo => ?_)
               go_simp
               refine hKo _ _ ?_
               clear hKo Ko
               try simp only [Act.put, nm1, nm2, nm3, i64_w]
               refine wpList_step (fun Ko hKo => ?_)
               go_simp
               refine hKo _ _ ?_
               clear hKo Ko
               try simp only [Act.put, nm1, nm2, nm3, i64_w]
               by_cases c302 : (t134 == 0) = true
               ·
                rw [if_pos c302] at H
                have c302n : (t134 != 0) = false := by rw [bne, c302]; rfl
                try simp only [c302, c302n, Bool.not_true, Bool.not_false]
                refine step_no rfl ?_
                simp only [Act.put, nm1, nm2, nm3, i64_w]
                refine step_no rfl ?_
                simp only [Act.put, nm1, nm2, nm3, i64_w]
                refine wpList_step (fun Ko hKo => ?_)
                go_simp
                refine hKo _ _ ?_
                clear hKo Ko
                try simp only [Act.put, nm1, nm2, nm3, i64_w]
                refine wpList_step (fun Ko hKo => ?_)
                go_simp
                refine hKo _ _ ?_
                clear hKo Ko
                try simp only [Act.put, nm1, nm2, nm3, i64_w]
                refine step_no rfl ?_
                simp only [Act.put, nm1, nm2, nm3, i64_w]
                refine step_no rfl ?_
                simp only [Act.put, nm1, nm2, nm3, i64_w]
                refine wpList_step (fun Ko hKo => ?_)
                go_simp
                refine hKo _ _ ?_
                clear hKo Ko
                try simp only [Act.put, nm1, nm2, nm3, i64_w]
                by_cases c303 : (t283 == 0) = true
                ·
                 rw [if_pos c303] at H
                 have c303n : (t283 != 0) = false := by rw [bne, c303]; rfl
                 obtain rfl := Option.some.inj H
                 try simp only [c303, c303n, Bool.not_true, Bool.not_false]
                 refine wpList_step (fun Ko hKo => ?_)
                 go_simp
                 refine hKo _ _ ?_
                 clear hKo Ko
                 try simp only [Act.put, nm1, nm2, nm3, i64_w]
                 refine wpList_plain rfl (fun Ko hKo => ?_)
                 go_simp
                 refine hKo _ _ ?_
                 clear hKo Ko
                 try simp only [Act.put, nm1, nm2, nm3, i64_w]
                 refine wpList_nil ?_
                 (try simp only [Exit.then, Exit.inBlock, ↓reduceIte, Nat.reduceEqDiff])
                 refine hK294 _ _ ?_
                 as_aux_lemma =>
                 refine wp_cond_true rfl ?_
                 refine wp_seq_k (fun K304 hK304 => ?_)
                 refine wp_region_lit ?_
                 refine wpList_plain rfl (fun Ko hKo => ?_)
                 go_simp
                 refine hKo _ _ ?_
                 clear hKo Ko
                 try simp only [Act.put, nm1, nm2, nm3, i64_w]
                 refine wpList_nil ?_
                 (try simp only [Exit.then, Exit.inBlock, ↓reduceIte, Nat.reduceEqDiff])
                 refine hK304 _ _ ?_
                 refine wp_ret ?_
                 (try simp only [Exit.then, Exit.inBlock, ↓reduceIte, Nat.reduceEqDiff])
                 refine hQf _ _ _ ?_
                 exact bodyPost_ret (v := .bool false) (by first | rfl | (simp [results, Try.results3, go_sem]; done) | (simp [results, Try.results3, go_sem]; rfl)) rfl ⟨rfl, ((hm263.out.trans hu286.out).trans hu292.out)⟩
                ·
                 rw [if_neg c303] at H
                 replace c303 := Bool.eq_false_iff.mpr c303
                 have c303n : (t283 != 0) = true := by rw [bne, c303]; rfl
                 have c303p : ¬ t283 = 0 := fun e => by simp [e] at c303
                 have HL307 := Aside0.mk H
                 clear H
                 try simp only [c303, c303n, Bool.not_true, Bool.not_false]
                 refine wpList_step (fun Ko hKo => ?_)
                 go_simp
                 refine hKo _ _ ?_
                 clear hKo Ko
                 try simp only [Act.put, nm1, nm2, nm3, i64_w]
                 refine wpList_plain rfl (fun Ko hKo => ?_)
                 go_simp
                 refine hKo _ _ ?_
                 clear hKo Ko
                 try simp only [Act.put, nm1, nm2, nm3, i64_w]
                 refine wpList_nil ?_
                 (try simp only [Exit.then, Exit.inBlock, ↓reduceIte, Nat.reduceEqDiff])
                 refine hK294 _ _ ?_
                 refine wp_cond_false rfl ?_
                 refine wp_skip ?_
                 (try simp only [Exit.then, Exit.inBlock, ↓reduceIte, Nat.reduceEqDiff])
                 refine hK293 _ _ ?_
                 refine wp_seq_k (fun K305 hK305 => ?_)
                 refine wp_seq_k (fun K306 hK306 => ?_)
                 refine wp_region_lit ?_
                 refine wpList_plain rfl (fun Ko hKo => ?_)
                 go_simp
                 refine hKo _ _ ?_
                 clear hKo Ko
                 try simp only [Act.put, nm1, nm2, nm3, i64_w]
                 refine wpList_plain rfl (fun Ko hKo => ?_)
                 go_simp
                 refine hKo _ _ ?_
                 clear hKo Ko
                 try simp only [Act.put, nm1, nm2, nm3, i64_w]
                 refine wpList_nil ?_
                 (try simp only [Exit.then, Exit.inBlock, ↓reduceIte, Nat.reduceEqDiff])
                 refine hK306 _ _ ?_
                 refine wp_cond_true rfl ?_
                 refine wp_exit ?_
                 (try simp only [Exit.then, Exit.inBlock, ↓reduceIte, Nat.reduceEqDiff])
                 refine hK132 _ _ ?_
                 refine wp_region_lit ?_
                 refine wpList_plain rfl (fun Ko hKo => ?_)
                 go_simp
                 refine hKo _ _ ?_
                 clear hKo Ko
                 try simp only [Act.put, nm1, nm2, nm3, i64_w]
                 refine wpList_plain rfl (fun Ko hKo => ?_)
                 go_simp
                 refine hKo _ _ ?_
                 clear hKo Ko
                 try simp only [Act.put, nm1, nm2, nm3, i64_w]
                 refine wpList_plain rfl (fun Ko hKo => ?_)
                 go_simp
                 refine hKo _ _ ?_
                 clear hKo Ko
                 try simp only [Act.put, nm1, nm2, nm3, i64_w]
                 refine wpList_nil ?_
                 (try simp only [Exit.then, Exit.inBlock, ↓reduceIte, Nat.reduceEqDiff])
                 refine hK126 _ _ ?_
                 go_roundg k122
                 case measure => exact Nat.lt_succ_self _
                 case rel => exact ⟨wrap64 (x110 + 1), t172, t173, (by first | rfl | simp), HL307, ⟨by have := hk123.out; omega⟩, ⟨((hm265.out.trans hu286.out).trans hu292.out)⟩, ⟨(Nat.le_trans ((Nat.le_trans (hm267.out) hu286.out.size)) hu292.out.size)⟩, (h268.up (hu286.out.trans hu292.out)), (h269.up (hu286.out.trans hu292.out)), (h270.up (hu286.out.trans hu292.out)), (h271.up (hu286.out.trans hu292.out)), (h272.up (hu286.out.trans hu292.out))⟩
               ·
                rw [if_neg c302] at H
                replace c302 := Bool.eq_false_iff.mpr c302
                have c302n : (t134 != 0) = true := by rw [bne, c302]; rfl
                have c302p : ¬ t134 = 0 := fun e => by simp [e] at c302
                try simp only [c302, c302n, Bool.not_true, Bool.not_false]
                refine wpList_step (fun Ko hKo => ?_)
                go_simp
                refine hKo _ _ ?_
                clear hKo Ko
                try simp only [Act.put, nm1, nm2, nm3, i64_w]
                refine wpList_step (fun Ko hKo => ?_)
                go_simp
                refine hKo _ _ ?_
                clear hKo Ko
                try simp only [Act.put, nm1, nm2, nm3, i64_w]
                refine wpList_step (fun Ko hKo => ?_)
                go_simp
                refine hKo _ _ ?_
                clear hKo Ko
                try simp only [Act.put, nm1, nm2, nm3, i64_w]
                refine wpList_step (fun Ko hKo => ?_)
                go_simp
                refine hKo _ _ ?_
                clear hKo Ko
                try simp only [Act.put, nm1, nm2, nm3, i64_w]
                by_cases c308 : (t140 == 0) = true
                ·
                 rw [if_pos c308] at H
                 have c308n : (t140 != 0) = false := by rw [bne, c308]; rfl
                 try simp only [c308, c308n, Bool.not_true, Bool.not_false]
                 refine step_no rfl ?_
                 simp only [Act.put, nm1, nm2, nm3, i64_w]
                 refine step_no rfl ?_
                 simp only [Act.put, nm1, nm2, nm3, i64_w]
                 refine wpList_step (fun Ko hKo => ?_)
                 go_simp
                 refine hKo _ _ ?_
                 clear hKo Ko
                 try simp only [Act.put, nm1, nm2, nm3, i64_w]
                 by_cases c309 : (t283 == 0) = true
                 ·
                  rw [if_pos c309] at H
                  have c309n : (t283 != 0) = false := by rw [bne, c309]; rfl
                  obtain rfl := Option.some.inj H
                  try simp only [c309, c309n, Bool.not_true, Bool.not_false]
                  refine wpList_step (fun Ko hKo => ?_)
                  go_simp
                  refine hKo _ _ ?_
                  clear hKo Ko
                  try simp only [Act.put, nm1, nm2, nm3, i64_w]
                  refine wpList_plain rfl (fun Ko hKo => ?_)
                  go_simp
                  refine hKo _ _ ?_
                  clear hKo Ko
                  try simp only [Act.put, nm1, nm2, nm3, i64_w]
                  refine wpList_nil ?_
                  (try simp only [Exit.then, Exit.inBlock, ↓reduceIte, Nat.reduceEqDiff])
                  refine hK294 _ _ ?_
                  as_aux_lemma =>
                  refine wp_cond_true rfl ?_
                  refine wp_seq_k (fun K310 hK310 => ?_)
                  refine wp_region_lit ?_
                  refine wpList_plain rfl (fun Ko hKo => ?_)
                  go_simp
                  refine hKo _ _ ?_
                  clear hKo Ko
                  try simp only [Act.put, nm1, nm2, nm3, i64_w]
                  refine wpList_nil ?_
                  (try simp only [Exit.then, Exit.inBlock, ↓reduceIte, Nat.reduceEqDiff])
                  refine hK310 _ _ ?_
                  refine wp_ret ?_
                  (try simp only [Exit.then, Exit.inBlock, ↓reduceIte, Nat.reduceEqDiff])
                  refine hQf _ _ _ ?_
                  exact bodyPost_ret (v := .bool false) (by first | rfl | (simp [results, Try.results3, go_sem]; done) | (simp [results, Try.results3, go_sem]; rfl)) rfl ⟨rfl, ((hm263.out.trans hu286.out).trans hu292.out)⟩
                 ·
                  rw [if_neg c309] at H
                  replace c309 := Bool.eq_false_iff.mpr c309
                  have c309n : (t283 != 0) = true := by rw [bne, c309]; rfl
                  have c309p : ¬ t283 = 0 := fun e => by simp [e] at c309
                  have HL313 := Aside0.mk H
                  clear H
                  try simp only [c309, c309n, Bool.not_true, Bool.not_false]
                  refine wpList_step (fun Ko hKo => ?_)
                  go_simp
                  refine hKo _ _ ?_
                  clear hKo Ko
                  try simp only [Act.put, nm1, nm2, nm3, i64_w]
                  refine wpList_plain rfl (fun Ko hKo => ?_)
                  go_simp
                  refine hKo _ _ ?_
                  clear hKo Ko
                  try simp only [Act.put, nm1, nm2, nm3, i64_w]
                  refine wpList_nil ?_
                  (try simp only [Exit.then, Exit.inBlock, ↓reduceIte, Nat.reduceEqDiff])
                  refine hK294 _ _ ?_
                  refine wp_cond_false rfl ?_
                  refine wp_skip ?_
                  (try simp only [Exit.then, Exit.inBlock, ↓reduceIte, Nat.reduceEqDiff])
                  refine hK293 _ _ ?_
                  refine wp_seq_k (fun K311 hK311 => ?_)
                  refine wp_seq_k (fun K312 hK312 => ?_)
                  refine wp_region_lit ?_
                  refine wpList_plain rfl (fun Ko hKo => ?_)
                  go_simp
                  refine hKo _ _ ?_
                  clear hKo Ko
                  try simp only [Act.put, nm1, nm2, nm3, i64_w]
                  refine wpList_plain rfl (fun Ko hKo => ?_)
                  go_simp
                  refine hKo _ _ ?_
                  clear hKo Ko
                  try simp only [Act.put, nm1, nm2, nm3, i64_w]
                  refine wpList_nil ?_
                  (try simp only [Exit.then, Exit.inBlock, ↓reduceIte, Nat.reduceEqDiff])
                  refine hK312 _ _ ?_
                  refine wp_cond_true rfl ?_
                  refine wp_exit ?_
                  (try simp only [Exit.then, Exit.inBlock, ↓reduceIte, Nat.reduceEqDiff])
                  refine hK132 _ _ ?_
                  refine wp_region_lit ?_
                  refine wpList_plain rfl (fun Ko hKo => ?_)
                  go_simp
                  refine hKo _ _ ?_
                  clear hKo Ko
                  try simp only [Act.put, nm1, nm2, nm3, i64_w]
                  refine wpList_plain rfl (fun Ko hKo => ?_)
                  go_simp
                  refine hKo _ _ ?_
                  clear hKo Ko
                  try simp only [Act.put, nm1, nm2, nm3, i64_w]
                  refine wpList_plain rfl (fun Ko hKo => ?_)
                  go_simp
                  refine hKo _ _ ?_
                  clear hKo Ko
                  try simp only [Act.put, nm1, nm2, nm3, i64_w]
                  refine wpList_nil ?_
                  (try simp only [Exit.then, Exit.inBlock, ↓reduceIte, Nat.reduceEqDiff])
                  refine hK126 _ _ ?_
                  go_roundg k122
                  case measure => exact Nat.lt_succ_self _
                  case rel => exact ⟨wrap64 (x110 + 1), t172, t173, (by first | rfl | simp), HL313, ⟨by have := hk123.out; omega⟩, ⟨((hm265.out.trans hu286.out).trans hu292.out)⟩, ⟨(Nat.le_trans ((Nat.le_trans (hm267.out) hu286.out.size)) hu292.out.size)⟩, (h268.up (hu286.out.trans hu292.out)), (h269.up (hu286.out.trans hu292.out)), (h270.up (hu286.out.trans hu292.out)), (h271.up (hu286.out.trans hu292.out)), (h272.up (hu286.out.trans hu292.out))⟩
                ·
                 rw [if_neg c308] at H
                 replace c308 := Bool.eq_false_iff.mpr c308
                 have c308n : (t140 != 0) = true := by rw [bne, c308]; rfl
                 have c308p : ¬ t140 = 0 := fun e => by simp [e] at c308
                 try simp only [c308, c308n, Bool.not_true, Bool.not_false]
                 refine wpList_step (fun Ko hKo => ?_)
                 go_simp
                 refine hKo _ _ ?_
                 clear hKo Ko
                 try simp only [Act.put, nm1, nm2, nm3, i64_w]
                 refine wpList_step (fun Ko hKo => ?_)
                 go_simp
                 refine hKo _ _ ?_
                 clear hKo Ko
                 try simp only [Act.put, nm1, nm2, nm3, i64_w]
                 refine wpList_step (fun Ko hKo => ?_)
                 go_simp
                 refine hKo _ _ ?_
                 clear hKo Ko
                 try simp only [Act.put, nm1, nm2, nm3, i64_w]
                 by_cases c314 : (t283 == 0) = true
                 ·
                  rw [if_pos c314] at H
                  have c314n : (t283 != 0) = false := by rw [bne, c314]; rfl
                  try simp only [c314, c314n, Bool.not_true, Bool.not_false]
                  by_cases c315 : (t146 == 0) = true
                  ·
                   rw [if_pos c315] at H
                   have c315n : (t146 != 0) = false := by rw [bne, c315]; rfl
                   obtain rfl := Option.some.inj H
                   try simp only [c315, c315n, Bool.not_true, Bool.not_false]
                   refine wpList_step (fun Ko hKo => ?_)
                   go_simp
                   refine hKo _ _ ?_
                   clear hKo Ko
                   try simp only [Act.put, nm1, nm2, nm3, i64_w]
                   refine wpList_plain rfl (fun Ko hKo => ?_)
                   go_simp
                   refine hKo _ _ ?_
                   clear hKo Ko
                   try simp only [Act.put, nm1, nm2, nm3, i64_w]
                   refine wpList_nil ?_
                   (try simp only [Exit.then, Exit.inBlock, ↓reduceIte, Nat.reduceEqDiff])
                   refine hK294 _ _ ?_
                   as_aux_lemma =>
                   refine wp_cond_true rfl ?_
                   refine wp_seq_k (fun K316 hK316 => ?_)
                   refine wp_region_lit ?_
                   refine wpList_plain rfl (fun Ko hKo => ?_)
                   go_simp
                   refine hKo _ _ ?_
                   clear hKo Ko
                   try simp only [Act.put, nm1, nm2, nm3, i64_w]
                   refine wpList_nil ?_
                   (try simp only [Exit.then, Exit.inBlock, ↓reduceIte, Nat.reduceEqDiff])
                   refine hK316 _ _ ?_
                   refine wp_ret ?_
                   (try simp only [Exit.then, Exit.inBlock, ↓reduceIte, Nat.reduceEqDiff])
                   refine hQf _ _ _ ?_
                   exact bodyPost_ret (v := .bool false) (by first | rfl | (simp [results, Try.results3, go_sem]; done) | (simp [results, Try.results3, go_sem]; rfl)) rfl ⟨rfl, ((hm263.out.trans hu286.out).trans hu292.out)⟩
                  ·
                   rw [if_neg c315] at H
                   replace c315 := Bool.eq_false_iff.mpr c315
                   have c315n : (t146 != 0) = true := by rw [bne, c315]; rfl
                   have c315p : ¬ t146 = 0 := fun e => by simp [e] at c315
                   try simp only [c315, c315n, Bool.not_true, Bool.not_false]
                   refine wpList_step (fun Ko hKo => ?_)
                   go_simp
                   refine hKo _ _ ?_
                   clear hKo Ko
                   try simp only [Act.put, nm1, nm2, nm3, i64_w]
                   refine wpList_plain rfl (fun Ko hKo => ?_)
                   go_simp
                   refine hKo _ _ ?_
                   clear hKo Ko
                   try simp only [Act.put, nm1, nm2, nm3, i64_w]
                   refine wpList_nil ?_
                   (try simp only [Exit.then, Exit.inBlock, ↓reduceIte, Nat.reduceEqDiff])
                   refine hK294 _ _ ?_
                   refine wp_cond_false rfl ?_
                   refine wp_skip ?_
                   (try simp only [Exit.then, Exit.inBlock, ↓reduceIte, Nat.reduceEqDiff])
                   refine hK293 _ _ ?_
                   refine wp_seq_k (fun K317 hK317 => ?_)
                   refine wp_seq_k (fun K318 hK318 => ?_)
                   refine wp_region_lit ?_
                   refine wpList_plain rfl (fun Ko hKo => ?_)
                   go_simp
                   refine hKo _ _ ?_
                   clear hKo Ko
                   try simp only [Act.put, nm1, nm2, nm3, i64_w]
                   refine wpList_plain rfl (fun Ko hKo => ?_)
                   go_simp
                   refine hKo _ _ ?_
                   clear hKo Ko
                   try simp only [Act.put, nm1, nm2, nm3, i64_w]
                   refine wpList_nil ?_
                   (try simp only [Exit.then, Exit.inBlock, ↓reduceIte, Nat.reduceEqDiff])
                   refine hK318 _ _ ?_
                   refine wp_cond_false rfl ?_
                   refine wp_skip ?_
                   (try simp only [Exit.then, Exit.inBlock, ↓reduceIte, Nat.reduceEqDiff])
                   refine hK317 _ _ ?_
                   refine wp_seq_k (fun K319 hK319 => ?_)
                   refine wp_seq_k (fun K320 hK320 => ?_)
                   by_cases c321 : ((t280.length : Int) == 3) = true
                   ·
                    rw [if_pos c321] at H
                    have c321n : ((t280.length : Int) != 3) = false := by rw [bne, c321]; rfl
                    replace H := Option.bind_eq_some_iff.mp H
                    obtain ⟨t322, A323, H⟩ := H
                    replace A323 := Aside0.mk A323
                    try dsimp only at H
                    try simp only [c321, c321n, Bool.not_true, Bool.not_false]
                    obtain ⟨ad324, hat, he⟩ := rd_at ((ht280.up hu292.out).rd) A323.out
                    have he325 := Aside0.mk he
                    have hat327 := Aside0.mk hat
                    clear he hat
                    by_cases c328 : (t30 == 0) = true
                    ·
                     rw [if_pos c328] at H
                     have c328n : (t30 != 0) = false := by rw [bne, c328]; rfl
                     exact absurd H (by simp)
                    ·
                     rw [if_neg c328] at H
                     replace c328 := Bool.eq_false_iff.mpr c328
                     have c328n : (t30 != 0) = true := by rw [bne, c328]; rfl
                     have c328p : ¬ t30 = 0 := fun e => by simp [e] at c328
                     replace H := Option.bind_eq_some_iff.mp H
                     obtain ⟨t329, A330, H⟩ := H
                     replace A330 := Aside0.mk A330
                     try dsimp only at H
                     try simp only [c328, c328n, Bool.not_true, Bool.not_false]
                     obtain ⟨ad331, hat, he⟩ := rd_at ((ht280.up hu292.out).rd) A330.out
                     have he332 := Aside0.mk he
                     have hat334 := Aside0.mk hat
                     clear he hat
                     by_cases c335 : ((Int.tmod (wrap64 (t322 * t140)) t30) == (Int.tmod (wrap64 (t329 * t134)) t30)) = true
                     ·
                      rw [if_pos c335] at H
                      have c335n : ((Int.tmod (wrap64 (t322 * t140)) t30) != (Int.tmod (wrap64 (t329 * t134)) t30)) = false := by rw [bne, c335]; rfl
                      replace H := Option.bind_eq_some_iff.mp H
                      obtain ⟨t336, A337, H⟩ := H
                      replace A337 := Aside0.mk A337
                      try dsimp only at H
                      replace H := Option.bind_eq_some_iff.mp H
                      obtain ⟨t342, A343, H⟩ := H
                      replace A343 := Aside0.mk A343
                      try dsimp only at H
                      try simp only [c335, c335n, Bool.not_true, Bool.not_false]
                      obtain ⟨ad338, hat, he⟩ := rd_at ((ht280.up hu292.out).rd) A337.out
                      have he339 := Aside0.mk he
                      have hat341 := Aside0.mk hat
                      clear he hat
                      obtain ⟨ad344, hat, he⟩ := rd_at ((ht280.up hu292.out).rd) A343.out
                      have he345 := Aside0.mk he
                      have hat347 := Aside0.mk hat
                      clear he hat
                      refine' wp_region_up 37 [Slot.det _, Slot.det _, Slot.det _, Slot.det _, Slot.det _, Slot.det (.pointer (some ad324)), Slot.det _, Slot.det _, Slot.det _, Slot.det _, Slot.det _, Slot.det _, Slot.det (.pointer (some ad331)), Slot.det _, Slot.det _, Slot.det _, Slot.det _, Slot.det _, Slot.det _, Slot.det _, Slot.det _, Slot.det _, Slot.det (.pointer (some ad338)), Slot.det _, Slot.det _, Slot.det _, Slot.det _, Slot.det _, Slot.det _, Slot.det (.pointer (some ad344)), Slot.det _, Slot.det _, Slot.det _, Slot.det _, Slot.det _, Slot.det _, Slot.det _] (by kernel_rfl) (by kernel_rfl) ?main
                      case main =>
                       simp only [List.take_succ_cons, List.take_zero]
                       refine wpK_ops rfl (fun w1 hu => ?_) ?_
                       · clear hu
                         go_simp
                         first | done | rfl
                       simp only [Act.put, nm1, nm2, nm3, i64_w]
                       refine wpK_ops rfl (fun w1 hu => ?_) ?_
                       · clear hu
                         go_simp
                         first | done | rfl
                       simp only [Act.put, nm1, nm2, nm3, i64_w]
                       refine wpK_ops rfl (fun w1 hu => ?_) ?_
                       · clear hu
                         go_simp
                         first | done | rfl
                       simp only [Act.put, nm1, nm2, nm3, i64_w]
                       refine wpK_ops rfl (fun w1 hu => ?_) ?_
                       · clear hu
                         go_simp
                         first | done | rfl
                       simp only [Act.put, nm1, nm2, nm3, i64_w]
                       refine wpK_yesU rfl (fun w1 hu => ?_) ?_
                       · clear hu
                         go_simp
                         first | done | rfl
                       simp only [Act.put, nm1, nm2, nm3, i64_w]
                       refine wpK_yesU rfl (fun w1 hu => ?_) ?_
                       · exact quiet_index eI (T := 2) rfl (by kernel_rfl) (by kernel_rfl) rfl rfl rfl hat327.out A323.out
                       simp only [Act.put, nm1, nm2, nm3, i64_w]
                       refine wpK_yesU rfl (fun w1 hu => ?_) ?_
                       · have cl0 := he325.out 0 _ rfl
                         rw [addr_add0] at cl0
                         replace cl0 := (((Up.refl _).drew.trans hu)).kept cl0
                         go_simp
                         first | done | rfl
                       simp only [Act.put, nm1, nm2, nm3, i64_w]
                       refine wpK_yesU rfl (fun w1 hu => ?_) ?_
                       · clear hu
                         go_simp
                         first | done | rfl
                       simp only [Act.put, nm1, nm2, nm3, i64_w]
                       refine wpK_yesU rfl (fun w1 hu => ?_) ?_
                       · clear hu
                         go_simp
                         first | done | rfl
                       simp only [Act.put, nm1, nm2, nm3, i64_w]
                       refine wpK_yesU rfl (fun w1 hu => ?_) ?_
                       · clear hu
                         go_simp
                         first | done | rfl
                       simp only [Act.put, nm1, nm2, nm3, i64_w]
                       refine wpK_yesU rfl (fun w1 hu => ?_) ?_
                       · clear hu
                         go_simp
                         first | done | rfl
                       simp only [Act.put, nm1, nm2, nm3, i64_w]
                       refine wpK_yesU rfl (fun w1 hu => ?_) ?_
                       · clear hu
                         go_simp
                         first | done | rfl
                       simp only [Act.put, nm1, nm2, nm3, i64_w]
                       refine wpK_yesU rfl (fun w1 hu => ?_) ?_
                       · exact quiet_index eI (T := 2) rfl (by kernel_rfl) (by kernel_rfl) rfl rfl rfl hat334.out A330.out
                       simp only [Act.put, nm1, nm2, nm3, i64_w]
                       refine wpK_yesU rfl (fun w1 hu => ?_) ?_
                       · have cl0 := he332.out 0 _ rfl
                         rw [addr_add0] at cl0
                         replace cl0 := (((Up.refl _).drew.trans hu)).kept cl0
                         go_simp
                         first | done | rfl
                       simp only [Act.put, nm1, nm2, nm3, i64_w]
                       refine wpK_yesU rfl (fun w1 hu => ?_) ?_
                       · clear hu
                         go_simp
                         first | done | rfl
                       simp only [Act.put, nm1, nm2, nm3, i64_w]
                       refine wpK_yesU rfl (fun w1 hu => ?_) ?_
                       · clear hu
                         go_simp
                         first | done | rfl
                       simp only [Act.put, nm1, nm2, nm3, i64_w]
                       refine wpK_yesU rfl (fun w1 hu => ?_) ?_
                       · clear hu
                         go_simp
                         first | done | rfl
                       simp only [Act.put, nm1, nm2, nm3, i64_w]
                       refine wpK_yesU rfl (fun w1 hu => ?_) ?_
                       · clear hu
                         go_simp
                         first | done | rfl
                       simp only [Act.put, nm1, nm2, nm3, i64_w]
                       refine wpK_yesU rfl (fun w1 hu => ?_) ?_
                       · clear hu
                         go_simp
                         first | done | rfl
                       simp only [Act.put, nm1, nm2, nm3, i64_w]
                       refine wpK_ops rfl (fun w1 hu => ?_) ?_
                       · clear hu
                         go_simp
                         first | done | rfl
                       simp only [Act.put, nm1, nm2, nm3, i64_w]
                       refine wpK_ops rfl (fun w1 hu => ?_) ?_
                       · clear hu
                         go_simp
                         first | done | rfl
                       simp only [Act.put, nm1, nm2, nm3, i64_w]
                       refine wpK_yesU rfl (fun w1 hu => ?_) ?_
                       · clear hu
                         go_simp
                         first | done | rfl
                       simp only [Act.put, nm1, nm2, nm3, i64_w]
                       refine wpK_yesU rfl (fun w1 hu => ?_) ?_
                       · exact quiet_index eI (T := 2) rfl (by kernel_rfl) (by kernel_rfl) rfl rfl rfl hat341.out A337.out
                       simp only [Act.put, nm1, nm2, nm3, i64_w]
                       refine wpK_yesU rfl (fun w1 hu => ?_) ?_
                       · have cl0 := he339.out 0 _ rfl
                         rw [addr_add0] at cl0
                         replace cl0 := (((Up.refl _).drew.trans hu)).kept cl0
                         go_simp
                         first | done | rfl
                       simp only [Act.put, nm1, nm2, nm3, i64_w]
                       refine wpK_yesU rfl (fun w1 hu => ?_) ?_
                       · clear hu
                         go_simp
                         first | done | rfl
                       simp only [Act.put, nm1, nm2, nm3, i64_w]
                       refine wpK_yesU rfl (fun w1 hu => ?_) ?_
                       · clear hu
                         go_simp
                         first | done | rfl
                       simp only [Act.put, nm1, nm2, nm3, i64_w]
                       refine wpK_yesU rfl (fun w1 hu => ?_) ?_
                       · clear hu
                         go_simp
                         first | done | rfl
                       simp only [Act.put, nm1, nm2, nm3, i64_w]
                       refine wpK_yesU rfl (fun w1 hu => ?_) ?_
                       · clear hu
                         go_simp
                         first | done | rfl
                       simp only [Act.put, nm1, nm2, nm3, i64_w]
                       refine wpK_yesU rfl (fun w1 hu => ?_) ?_
                       · clear hu
                         go_simp
                         first | done | rfl
                       simp only [Act.put, nm1, nm2, nm3, i64_w]
                       refine wpK_yesU rfl (fun w1 hu => ?_) ?_
                       · exact quiet_index eI (T := 2) rfl (by kernel_rfl) (by kernel_rfl) rfl rfl rfl hat347.out A343.out
                       simp only [Act.put, nm1, nm2, nm3, i64_w]
                       refine wpK_yesU rfl (fun w1 hu => ?_) ?_
                       · have cl0 := he345.out 0 _ rfl
                         rw [addr_add0] at cl0
                         replace cl0 := (((Up.refl _).drew.trans hu)).kept cl0
                         go_simp
                         first | done | rfl
                       simp only [Act.put, nm1, nm2, nm3, i64_w]
                       refine wpK_yesU rfl (fun w1 hu => ?_) ?_
                       · clear hu
                         go_simp
                         first | done | rfl
                       simp only [Act.put, nm1, nm2, nm3, i64_w]
                       refine wpK_yesU rfl (fun w1 hu => ?_) ?_
                       · clear hu
                         go_simp
                         first | done | rfl
                       simp only [Act.put, nm1, nm2, nm3, i64_w]
                       refine wpK_yesU rfl (fun w1 hu => ?_) ?_
                       · clear hu
                         go_simp
                         first | done | rfl
                       simp only [Act.put, nm1, nm2, nm3, i64_w]
                       refine wpK_yesU rfl (fun w1 hu => ?_) ?_
                       · clear hu
                         go_simp
                         first | done | rfl
                       simp only [Act.put, nm1, nm2, nm3, i64_w]
                       refine wpK_yesU rfl (fun w1 hu => ?_) ?_
                       · clear hu
                         go_simp
                         first | done | rfl
                       simp only [Act.put, nm1, nm2, nm3, i64_w]
                       refine wpK_ops rfl (fun w1 hu => ?_) ?_
                       · clear hu
                         go_simp
                         first | done | rfl
                       simp only [Act.put, nm1, nm2, nm3, i64_w]
                       refine wpK_nil ?_
                       intro w348 hu hap
                       simp only [List.drop_succ_cons, List.drop_zero]
                       replace hu := (Up.refl _).drew.trans hu
                       clear hap
                       have hu349 := Aside0.mk hu
                       clear hu
                       refine wpList_nil ?_
                       (try simp only [Exit.then, Exit.inBlock, ↓reduceIte, Nat.reduceEqDiff])
                       refine hK320 _ _ ?_
                       as_aux_lemma =>
                       have hm351 := Aside0.mk (Nat.le_trans ((Nat.le_trans ((Nat.le_trans (hm264.out) hu286.out.size)) hu292.out.size)) hu349.out.size)
                       have hm352 := Aside0.mk (Nat.le_trans ((Nat.le_trans ((Nat.le_trans (hm266.out) hu286.out.size)) hu292.out.size)) hu349.out.size)
                       have hm353 := Aside0.mk (Nat.le_trans ((Nat.le_trans ((Nat.le_trans (hm267.out) hu286.out.size)) hu292.out.size)) hu349.out.size)
                       have h354 := (hb254.up (((hu260.out.trans hu286.out).trans hu292.out).trans hu349.out))
                       by_cases c350 : ((Int.tmod (wrap64 (t336 * t146)) t30) == (Int.tmod (wrap64 (t342 * t140)) t30)) = true
                       ·
                        rw [if_pos c350] at H
                        have c350n : ((Int.tmod (wrap64 (t336 * t146)) t30) != (Int.tmod (wrap64 (t342 * t140)) t30)) = false := by rw [bne, c350]; rfl
                        replace H := Option.bind_eq_some_iff.mp H
                        obtain ⟨t357, A358, H⟩ := H
                        replace A358 := Aside0.mk A358
                        try dsimp only at H
                        try simp only [c350, c350n, Bool.not_true, Bool.not_false]
                        refine wp_cond_false rfl ?_
                        refine wp_skip ?_
                        (try simp only [Exit.then, Exit.inBlock, ↓reduceIte, Nat.reduceEqDiff])
                        refine hK319 _ _ ?_
                        refine wp_seq_k (fun K355 hK355 => ?_)
                        refine wp_region_lit ?_
                        refine wpList_plain rfl (fun Ko hKo => ?_)
                        go_simp
                        refine hKo _ _ ?_
                        clear hKo Ko
                        try simp only [Act.put, nm1, nm2, nm3, i64_w]
                        refine wpList_plain rfl (fun Ko hKo => ?_)
                        go_simp
                        refine hKo _ _ ?_
                        clear hKo Ko
                        try simp only [Act.put, nm1, nm2, nm3, i64_w]
                        refine wpList_plain rfl (fun Ko hKo => ?_)
                        go_simp
                        refine hKo _ _ ?_
                        clear hKo Ko
                        try simp only [Act.put, nm1, nm2, nm3, i64_w]
                        refine wpList_plain rfl (fun Ko hKo => ?_)
                        go_simp
                        refine hKo _ _ ?_
                        clear hKo Ko
                        try simp only [Act.put, nm1, nm2, nm3, i64_w]
                        refine wpList_plain rfl (fun Ko hKo => ?_)
                        go_simp
                        refine hKo _ _ ?_
                        clear hKo Ko
                        try simp only [Act.put, nm1, nm2, nm3, i64_w]
                        refine wpList_plain rfl (fun Ko hKo => ?_)
                        go_simp
                        refine hKo _ _ ?_
                        clear hKo Ko
                        try simp only [Act.put, nm1, nm2, nm3, i64_w]
                        refine wpList_plain rfl (fun Ko hKo => ?_)
                        go_simp
                        refine hKo _ _ ?_
                        clear hKo Ko
                        try simp only [Act.put, nm1, nm2, nm3, i64_w]
                        refine wpList_plain rfl (fun Ko hKo => ?_)
                        go_simp
                        refine hKo _ _ ?_
                        clear hKo Ko
                        try simp only [Act.put, nm1, nm2, nm3, i64_w]
                        refine wpList_plain rfl (fun Ko hKo => ?_)
                        go_simp
                        refine hKo _ _ ?_
                        clear hKo Ko
                        try simp only [Act.put, nm1, nm2, nm3, i64_w]
                        refine wpList_plain rfl (fun Ko hKo => ?_)
                        go_simp
                        refine hKo _ _ ?_
                        clear hKo Ko
                        try simp only [Act.put, nm1, nm2, nm3, i64_w]
                        refine wpList_nil ?_
                        (try simp only [Exit.then, Exit.inBlock, ↓reduceIte, Nat.reduceEqDiff])
                        refine hK355 _ _ ?_
                        refine wp_seq_k (fun K356 hK356 => ?_)
                        obtain ⟨ad359, hat, he⟩ := rd_at ((ht280.up (hu292.out.trans hu349.out)).rd) A358.out
                        have he360 := Aside0.mk he
                        have hat362 := Aside0.mk hat
                        clear he hat
                        refine' wp_region_up 21 [Slot.det _, Slot.det _, Slot.det _, Slot.det _, Slot.det _, Slot.det _, Slot.det _, Slot.det _, Slot.det _, Slot.det _, Slot.det _, Slot.det _, Slot.det (.pointer (some ad359)), Slot.det _, Slot.det _, Slot.det _, Slot.det _, Slot.det _, Slot.det _, Slot.det _, Slot.det _] (by kernel_rfl) (by kernel_rfl) ?main
                        case main =>
                         simp only [List.take_succ_cons, List.take_zero]
                         refine wpK_ops rfl (fun w1 hu => ?_) ?_
                         · clear hu
                           go_simp
                           first | done | rfl
                         simp only [Act.put, nm1, nm2, nm3, i64_w]
                         refine wpK_ops rfl (fun w1 hu => ?_) ?_
                         · clear hu
                           go_simp
                           first | done | rfl
                         simp only [Act.put, nm1, nm2, nm3, i64_w]
                         refine wpK_ops rfl (fun w1 hu => ?_) ?_
                         · clear hu
                           go_simp
                           first | done | rfl
                         simp only [Act.put, nm1, nm2, nm3, i64_w]
                         refine wpK_ops rfl (fun w1 hu => ?_) ?_
                         · clear hu
                           go_simp
                           first | done | rfl
                         simp only [Act.put, nm1, nm2, nm3, i64_w]
                         refine wpK_ops rfl (fun w1 hu => ?_) ?_
                         · clear hu
                           go_simp
                           first | done | rfl
                         simp only [Act.put, nm1, nm2, nm3, i64_w]
                         refine wpK_ops rfl (fun w1 hu => ?_) ?_
                         · clear hu
                           go_simp
                           first | done | rfl
                         simp only [Act.put, nm1, nm2, nm3, i64_w]
                         refine wpK_ops rfl (fun w1 hu => ?_) ?_
                         · clear hu
                           go_simp
                           first | done | rfl
                         simp only [Act.put, nm1, nm2, nm3, i64_w]
                         refine wpK_ops rfl (fun w1 hu => ?_) ?_
                         · clear hu
                           go_simp
                           first | done | rfl
                         simp only [Act.put, nm1, nm2, nm3, i64_w]
                         refine wpK_ops rfl (fun w1 hu => ?_) ?_
                         · clear hu
                           go_simp
                           first | done | rfl
                         simp only [Act.put, nm1, nm2, nm3, i64_w]
                         refine wpK_ops rfl (fun w1 hu => ?_) ?_
                         · clear hu
                           go_simp
                           first | done | rfl
                         simp only [Act.put, nm1, nm2, nm3, i64_w]
                         refine wpK_ops rfl (fun w1 hu => ?_) ?_
                         · clear hu
                           go_simp
                           first | done | rfl
                         simp only [Act.put, nm1, nm2, nm3, i64_w]
                         refine wpK_ops rfl (fun w1 hu => ?_) ?_
                         · clear hu
                           go_simp
                           first | done | rfl
                         simp only [Act.put, nm1, nm2, nm3, i64_w]
                         refine wpK_ops rfl (fun w1 hu => ?_) ?_
                         · exact quiet_index eI (T := 2) rfl (by kernel_rfl) (by kernel_rfl) rfl rfl rfl hat362.out A358.out
                         simp only [Act.put, nm1, nm2, nm3, i64_w]
                         refine wpK_ops rfl (fun w1 hu => ?_) ?_
                         · have cl0 := he360.out 0 _ rfl
                           rw [addr_add0] at cl0
                           replace cl0 := (((Up.refl _).drew.trans hu)).kept cl0
                           go_simp
                           first | done | rfl
                         simp only [Act.put, nm1, nm2, nm3, i64_w]
                         refine wpK_ops rfl (fun w1 hu => ?_) ?_
                         · clear hu
                           go_simp
                           first | done | rfl
                         simp only [Act.put, nm1, nm2, nm3, i64_w]
                         refine wpK_ops rfl (fun w1 hu => ?_) ?_
                         · clear hu
                           go_simp
                           first | done | rfl
                         simp only [Act.put, nm1, nm2, nm3, i64_w]
                         refine wpK_ops rfl (fun w1 hu => ?_) ?_
                         · clear hu
                           go_simp
                           first | done | rfl
                         simp only [Act.put, nm1, nm2, nm3, i64_w]
                         refine wpK_ops rfl (fun w1 hu => ?_) ?_
                         · clear hu
                           go_simp
                           first | done | rfl
                         simp only [Act.put, nm1, nm2, nm3, i64_w]
                         refine wpK_ops rfl (fun w1 hu => ?_) ?_
                         · clear hu
                           go_simp
                           first | done | rfl
                         simp only [Act.put, nm1, nm2, nm3, i64_w]
                         refine wpK_ops rfl (fun w1 hu => ?_) ?_
                         · clear hu
                           go_simp
                           first | done | rfl
                         simp only [Act.put, nm1, nm2, nm3, i64_w]
                         refine wpK_ops rfl (fun w1 hu => ?_) ?_
                         · clear hu
                           go_simp
                           first | done | rfl
                         simp only [Act.put, nm1, nm2, nm3, i64_w]
                         refine wpK_nil ?_
                         intro w363 hu hap
                         simp only [List.drop_succ_cons, List.drop_zero]
                         replace hu := (Up.refl _).drew.trans hu
                         clear hap
                         have hu364 := Aside0.mk hu
                         clear hu
                         refine wpList_nil ?_
                         (try simp only [Exit.then, Exit.inBlock, ↓reduceIte, Nat.reduceEqDiff])
                         refine hK356 _ _ ?_
                         as_aux_lemma =>
                         have h366 := (h268.up (((hu286.out.trans hu292.out).trans hu349.out).trans hu364.out))
                         have h367 := (h269.up (((hu286.out.trans hu292.out).trans hu349.out).trans hu364.out))
                         have h368 := (h270.up (((hu286.out.trans hu292.out).trans hu349.out).trans hu364.out))
                         have h369 := (h271.up (((hu286.out.trans hu292.out).trans hu349.out).trans hu364.out))
                         have h370 := (h272.up (((hu286.out.trans hu292.out).trans hu349.out).trans hu364.out))
                         have h371 := (h273.up (((hu286.out.trans hu292.out).trans hu349.out).trans hu364.out))
                         have h372 := (h274.up (((hu286.out.trans hu292.out).trans hu349.out).trans hu364.out))
                         have h373 := (h275.up (((hu286.out.trans hu292.out).trans hu349.out).trans hu364.out))
                         by_cases c365 : ((Int.tmod (wrap64 ((Int.tmod (wrap64 ((wrap64 ((wrap64 (t140 + t146)) - t134)) + t30)) t30) * (Int.tmod (wrap64 ((wrap64 ((wrap64 (t140 + t146)) - t134)) + t30)) t30))) t30) == (Int.tmod (wrap64 ((Int.tmod (wrap64 ((wrap64 (4 * t140)) * t146)) t30) * (wrap64 ((wrap64 (1 - t357)) + t30)))) t30)) = true
                         ·
                          rw [if_pos c365] at H
                          have c365n : ((Int.tmod (wrap64 ((Int.tmod (wrap64 ((wrap64 ((wrap64 (t140 + t146)) - t134)) + t30)) t30) * (Int.tmod (wrap64 ((wrap64 ((wrap64 (t140 + t146)) - t134)) + t30)) t30))) t30) != (Int.tmod (wrap64 ((Int.tmod (wrap64 ((wrap64 (4 * t140)) * t146)) t30) * (wrap64 ((wrap64 (1 - t357)) + t30)))) t30)) = false := by rw [bne, c365]; rfl
                          have HL374 := Aside0.mk H
                          clear H
                          try simp only [c365, c365n, Bool.not_true, Bool.not_false]
                          refine wp_cond_false rfl ?_
                          refine wp_skip ?_
                          (try simp only [Exit.then, Exit.inBlock, ↓reduceIte, Nat.reduceEqDiff])
                          refine hK132 _ _ ?_
                          refine wp_region_lit ?_
                          refine wpList_plain rfl (fun Ko hKo => ?_)
                          go_simp
                          refine hKo _ _ ?_
                          clear hKo Ko
                          try simp only [Act.put, nm1, nm2, nm3, i64_w]
                          refine wpList_plain rfl (fun Ko hKo => ?_)
                          go_simp
                          refine hKo _ _ ?_
                          clear hKo Ko
                          try simp only [Act.put, nm1, nm2, nm3, i64_w]
                          refine wpList_plain rfl (fun Ko hKo => ?_)
                          go_simp
                          refine hKo _ _ ?_
                          clear hKo Ko
                          try simp only [Act.put, nm1, nm2, nm3, i64_w]
                          refine wpList_nil ?_
                          (try simp only [Exit.then, Exit.inBlock, ↓reduceIte, Nat.reduceEqDiff])
                          refine hK126 _ _ ?_
                          go_roundg k122
                          case measure => exact Nat.lt_succ_self _
                          case rel => exact ⟨wrap64 (x110 + 1), t172, t173, (by first | rfl | simp), HL374, ⟨by have := hk123.out; omega⟩, ⟨((((hm265.out.trans hu286.out).trans hu292.out).trans hu349.out).trans hu364.out)⟩, ⟨(Nat.le_trans (hm353.out) hu364.out.size)⟩, h366, h367, h368, h369, h370⟩
                         ·
                          rw [if_neg c365] at H
                          replace c365 := Bool.eq_false_iff.mpr c365
                          have c365n : ((Int.tmod (wrap64 ((Int.tmod (wrap64 ((wrap64 ((wrap64 (t140 + t146)) - t134)) + t30)) t30) * (Int.tmod (wrap64 ((wrap64 ((wrap64 (t140 + t146)) - t134)) + t30)) t30))) t30) != (Int.tmod (wrap64 ((Int.tmod (wrap64 ((wrap64 (4 * t140)) * t146)) t30) * (wrap64 ((wrap64 (1 - t357)) + t30)))) t30)) = true := by rw [bne, c365]; rfl
                          have c365p : ¬ (Int.tmod (wrap64 ((Int.tmod (wrap64 ((wrap64 ((wrap64 (t140 + t146)) - t134)) + t30)) t30) * (Int.tmod (wrap64 ((wrap64 ((wrap64 (t140 + t146)) - t134)) + t30)) t30))) t30) = (Int.tmod (wrap64 ((Int.tmod (wrap64 ((wrap64 (4 * t140)) * t146)) t30) * (wrap64 ((wrap64 (1 - t357)) + t30)))) t30) := fun e => by simp [e] at c365
                          obtain rfl := Option.some.inj H
                          try simp only [c365, c365n, Bool.not_true, Bool.not_false]
                          refine wp_cond_true rfl ?_
                          refine wp_seq_k (fun K375 hK375 => ?_)
                          refine wp_region_lit ?_
                          refine wpList_plain rfl (fun Ko hKo => ?_)
                          go_simp
                          refine hKo _ _ ?_
                          clear hKo Ko
                          try simp only [Act.put, nm1, nm2, nm3, i64_w]
                          refine wpList_nil ?_
                          (try simp only [Exit.then, Exit.inBlock, ↓reduceIte, Nat.reduceEqDiff])
                          refine hK375 _ _ ?_
                          refine wp_ret ?_
                          (try simp only [Exit.then, Exit.inBlock, ↓reduceIte, Nat.reduceEqDiff])
                          refine hQf _ _ _ ?_
                          exact bodyPost_ret (v := .bool false) (by first | rfl | (simp [results, Try.results3, go_sem]; done) | (simp [results, Try.results3, go_sem]; rfl)) rfl ⟨rfl, ((((hm263.out.trans hu286.out).trans hu292.out).trans hu349.out).trans hu364.out)⟩
                       ·
                        rw [if_neg c350] at H
                        replace c350 := Bool.eq_false_iff.mpr c350
                        have c350n : ((Int.tmod (wrap64 (t336 * t146)) t30) != (Int.tmod (wrap64 (t342 * t140)) t30)) = true := by rw [bne, c350]; rfl
                        have c350p : ¬ (Int.tmod (wrap64 (t336 * t146)) t30) = (Int.tmod (wrap64 (t342 * t140)) t30) := fun e => by simp [e] at c350
                        obtain rfl := Option.some.inj H
                        try simp only [c350, c350n, Bool.not_true, Bool.not_false]
                        refine wp_cond_true rfl ?_
                        refine wp_seq_k (fun K376 hK376 => ?_)
                        refine wp_region_lit ?_
                        refine wpList_plain rfl (fun Ko hKo => ?_)
                        go_simp
                        refine hKo _ _ ?_
                        clear hKo Ko
                        try simp only [Act.put, nm1, nm2, nm3, i64_w]
                        refine wpList_nil ?_
                        (try simp only [Exit.then, Exit.inBlock, ↓reduceIte, Nat.reduceEqDiff])
                        refine hK376 _ _ ?_
                        refine wp_ret ?_
                        (try simp only [Exit.then, Exit.inBlock, ↓reduceIte, Nat.reduceEqDiff])
                        refine hQf _ _ _ ?_
                        exact bodyPost_ret (v := .bool false) (by first | rfl | (simp [results, Try.results3, go_sem]; done) | (simp [results, Try.results3, go_sem]; rfl)) rfl ⟨rfl, (((hm263.out.trans hu286.out).trans hu292.out).trans hu349.out)⟩
                     ·
                      rw [if_neg c335] at H
                      replace c335 := Bool.eq_false_iff.mpr c335
                      have c335n : ((Int.tmod (wrap64 (t322 * t140)) t30) != (Int.tmod (wrap64 (t329 * t134)) t30)) = true := by rw [bne, c335]; rfl
                      have c335p : ¬ (Int.tmod (wrap64 (t322 * t140)) t30) = (Int.tmod (wrap64 (t329 * t134)) t30) := fun e => by simp [e] at c335
                      obtain rfl := Option.some.inj H
                      try simp only [c335, c335n, Bool.not_true, Bool.not_false]
                      refine' wp_region_up 37 [Slot.det _, Slot.det _, Slot.det _, Slot.det _, Slot.det _, Slot.det (.pointer (some ad324)), Slot.det _, Slot.det _, Slot.det _, Slot.det _, Slot.det _, Slot.det _, Slot.det (.pointer (some ad331)), Slot.det _, Slot.det _, Slot.det _, Slot.det _, Slot.det _, Slot.det _, Slot.det _, Slot.det _, Slot.det undef, Slot.det undef, Slot.det undef, Slot.det undef, Slot.det undef, Slot.det undef, Slot.det undef, Slot.det undef, Slot.det undef, Slot.det undef, Slot.det undef, Slot.det undef, Slot.det undef, Slot.det undef, Slot.det undef, Slot.det _] (by kernel_rfl) (by kernel_rfl) ?main
                      case main =>
                       simp only [List.take_succ_cons, List.take_zero]
                       refine wpK_ops rfl (fun w1 hu => ?_) ?_
                       · clear hu
                         go_simp
                         first | done | rfl
                       simp only [Act.put, nm1, nm2, nm3, i64_w]
                       refine wpK_ops rfl (fun w1 hu => ?_) ?_
                       · clear hu
                         go_simp
                         first | done | rfl
                       simp only [Act.put, nm1, nm2, nm3, i64_w]
                       refine wpK_ops rfl (fun w1 hu => ?_) ?_
                       · clear hu
                         go_simp
                         first | done | rfl
                       simp only [Act.put, nm1, nm2, nm3, i64_w]
                       refine wpK_ops rfl (fun w1 hu => ?_) ?_
                       · clear hu
                         go_simp
                         first | done | rfl
                       simp only [Act.put, nm1, nm2, nm3, i64_w]
                       refine wpK_yesU rfl (fun w1 hu => ?_) ?_
                       · clear hu
                         go_simp
                         first | done | rfl
                       simp only [Act.put, nm1, nm2, nm3, i64_w]
                       refine wpK_yesU rfl (fun w1 hu => ?_) ?_
                       · exact quiet_index eI (T := 2) rfl (by kernel_rfl) (by kernel_rfl) rfl rfl rfl hat327.out A323.out
                       simp only [Act.put, nm1, nm2, nm3, i64_w]
                       refine wpK_yesU rfl (fun w1 hu => ?_) ?_
                       · have cl0 := he325.out 0 _ rfl
                         rw [addr_add0] at cl0
                         replace cl0 := (((Up.refl _).drew.trans hu)).kept cl0
                         go_simp
                         first | done | rfl
                       simp only [Act.put, nm1, nm2, nm3, i64_w]
                       refine wpK_yesU rfl (fun w1 hu => ?_) ?_
                       · clear hu
                         go_simp
                         first | done | rfl
                       simp only [Act.put, nm1, nm2, nm3, i64_w]
                       refine wpK_yesU rfl (fun w1 hu => ?_) ?_
                       · clear hu
                         go_simp
                         first | done | rfl
                       simp only [Act.put, nm1, nm2, nm3, i64_w]
                       refine wpK_yesU rfl (fun w1 hu => ?_) ?_
                       · clear hu
                         go_simp
                         first | done | rfl
                       simp only [Act.put, nm1, nm2, nm3, i64_w]
                       refine wpK_yesU rfl (fun w1 hu => ?_) ?_
                       · clear hu
                         go_simp
                         first | done | rfl
                       simp only [Act.put, nm1, nm2, nm3, i64_w]
                       refine wpK_yesU rfl (fun w1 hu => ?_) ?_
                       · clear hu
                         go_simp
                         first | done | rfl
                       simp only [Act.put, nm1, nm2, nm3, i64_w]
                       refine wpK_yesU rfl (fun w1 hu => ?_) ?_
                       · exact quiet_index eI (T := 2) rfl (by kernel_rfl) (by kernel_rfl) rfl rfl rfl hat334.out A330.out
                       simp only [Act.put, nm1, nm2, nm3, i64_w]
                       refine wpK_yesU rfl (fun w1 hu => ?_) ?_
                       · have cl0 := he332.out 0 _ rfl
                         rw [addr_add0] at cl0
                         replace cl0 := (((Up.refl _).drew.trans hu)).kept cl0
                         go_simp
                         first | done | rfl
                       simp only [Act.put, nm1, nm2, nm3, i64_w]
                       refine wpK_yesU rfl (fun w1 hu => ?_) ?_
                       · clear hu
                         go_simp
                         first | done | rfl
                       simp only [Act.put, nm1, nm2, nm3, i64_w]
                       refine wpK_yesU rfl (fun w1 hu => ?_) ?_
                       · clear hu
                         go_simp
                         first | done | rfl
                       simp only [Act.put, nm1, nm2, nm3, i64_w]
                       refine wpK_yesU rfl (fun w1 hu => ?_) ?_
                       · clear hu
                         go_simp
                         first | done | rfl
                       simp only [Act.put, nm1, nm2, nm3, i64_w]
                       refine wpK_yesU rfl (fun w1 hu => ?_) ?_
                       · clear hu
                         go_simp
                         first | done | rfl
                       simp only [Act.put, nm1, nm2, nm3, i64_w]
                       refine wpK_yesU rfl (fun w1 hu => ?_) ?_
                       · clear hu
                         go_simp
                         first | done | rfl
                       simp only [Act.put, nm1, nm2, nm3, i64_w]
                       refine wpK_ops rfl (fun w1 hu => ?_) ?_
                       · clear hu
                         go_simp
                         first | done | rfl
                       simp only [Act.put, nm1, nm2, nm3, i64_w]
                       refine wpK_ops rfl (fun w1 hu => ?_) ?_
                       · clear hu
                         go_simp
                         first | done | rfl
                       simp only [Act.put, nm1, nm2, nm3, i64_w]
                       refine wpK_no rfl ?_
                       simp only [Act.put, nm1, nm2, nm3, i64_w]
                       refine wpK_no rfl ?_
                       simp only [Act.put, nm1, nm2, nm3, i64_w]
                       refine wpK_no rfl ?_
                       simp only [Act.put, nm1, nm2, nm3, i64_w]
                       refine wpK_no rfl ?_
                       simp only [Act.put, nm1, nm2, nm3, i64_w]
                       refine wpK_no rfl ?_
                       simp only [Act.put, nm1, nm2, nm3, i64_w]
                       refine wpK_no rfl ?_
                       simp only [Act.put, nm1, nm2, nm3, i64_w]
                       refine wpK_no rfl ?_
                       simp only [Act.put, nm1, nm2, nm3, i64_w]
                       refine wpK_no rfl ?_
                       simp only [Act.put, nm1, nm2, nm3, i64_w]
                       refine wpK_no rfl ?_
                       simp only [Act.put, nm1, nm2, nm3, i64_w]
                       refine wpK_no rfl ?_
                       simp only [Act.put, nm1, nm2, nm3, i64_w]
                       refine wpK_no rfl ?_
                       simp only [Act.put, nm1, nm2, nm3, i64_w]
                       refine wpK_no rfl ?_
                       simp only [Act.put, nm1, nm2, nm3, i64_w]
                       refine wpK_no rfl ?_
                       simp only [Act.put, nm1, nm2, nm3, i64_w]
                       refine wpK_no rfl ?_
                       simp only [Act.put, nm1, nm2, nm3, i64_w]
                       refine wpK_no rfl ?_
                       simp only [Act.put, nm1, nm2, nm3, i64_w]
                       refine wpK_ops rfl (fun w1 hu => ?_) ?_
                       · clear hu
                         go_simp
                         first | done | rfl
                       simp only [Act.put, nm1, nm2, nm3, i64_w]
                       refine wpK_nil ?_
                       intro w377 hu hap
                       simp only [List.drop_succ_cons, List.drop_zero]
                       replace hu := (Up.refl _).drew.trans hu
                       clear hap
                       have hu378 := Aside0.mk hu
                       clear hu
                       refine wpList_nil ?_
                       (try simp only [Exit.then, Exit.inBlock, ↓reduceIte, Nat.reduceEqDiff])
                       refine hK320 _ _ ?_
                       as_aux_lemma =>
                       refine wp_cond_true rfl ?_
                       refine wp_seq_k (fun K379 hK379 => ?_)
                       refine wp_region_lit ?_
                       refine wpList_plain rfl (fun Ko hKo => ?_)
                       go_simp
                       refine hKo _ _ ?_
                       clear hKo Ko
                       try simp only [Act.put, nm1, nm2, nm3, i64_w]
                       refine wpList_nil ?_
                       (try simp only [Exit.then, Exit.inBlock, ↓reduceIte, Nat.reduceEqDiff])
                       refine hK379 _ _ ?_
                       refine wp_ret ?_
                       (try simp only [Exit.then, Exit.inBlock, ↓reduceIte, Nat.reduceEqDiff])
                       refine hQf _ _ _ ?_
                       exact bodyPost_ret (v := .bool false) (by first | rfl | (simp [results, Try.results3, go_sem]; done) | (simp [results, Try.results3, go_sem]; rfl)) rfl ⟨rfl, (((hm263.out.trans hu286.out).trans hu292.out).trans hu378.out)⟩
                   ·
                    rw [if_neg c321] at H
                    replace c321 := Bool.eq_false_iff.mpr c321
                    have c321n : ((t280.length : Int) != 3) = true := by rw [bne, c321]; rfl
                    have c321p : ¬ (t280.length : Int) = 3 := fun e => by simp [e] at c321
                    obtain rfl := Option.some.inj H
                    try simp only [c321, c321n, Bool.not_true, Bool.not_false]
                    refine' wp_region_up 37 [Slot.det _, Slot.det _, Slot.det _, Slot.det _, Slot.det undef, Slot.det undef, Slot.det undef, Slot.det undef, Slot.det undef, Slot.det undef, Slot.det undef, Slot.det undef, Slot.det undef, Slot.det undef, Slot.det undef, Slot.det undef, Slot.det undef, Slot.det undef, Slot.det undef, Slot.det _, Slot.det _, Slot.det undef, Slot.det undef, Slot.det undef, Slot.det undef, Slot.det undef, Slot.det undef, Slot.det undef, Slot.det undef, Slot.det undef, Slot.det undef, Slot.det undef, Slot.det undef, Slot.det undef, Slot.det undef, Slot.det undef, Slot.det _] (by kernel_rfl) (by kernel_rfl) ?main
                    case main =>
                     simp only [List.take_succ_cons, List.take_zero]
                     refine wpK_ops rfl (fun w1 hu => ?_) ?_
                     · clear hu
                       go_simp
                       first | done | rfl
                     simp only [Act.put, nm1, nm2, nm3, i64_w]
                     refine wpK_ops rfl (fun w1 hu => ?_) ?_
                     · clear hu
                       go_simp
                       first | done | rfl
                     simp only [Act.put, nm1, nm2, nm3, i64_w]
                     refine wpK_ops rfl (fun w1 hu => ?_) ?_
                     · clear hu
                       go_simp
                       first | done | rfl
                     simp only [Act.put, nm1, nm2, nm3, i64_w]
                     refine wpK_ops rfl (fun w1 hu => ?_) ?_
                     · clear hu
                       go_simp
                       first | done | rfl
                     simp only [Act.put, nm1, nm2, nm3, i64_w]
                     refine wpK_no rfl ?_
                     simp only [Act.put, nm1, nm2, nm3, i64_w]
                     refine wpK_no rfl ?_
                     simp only [Act.put, nm1, nm2, nm3, i64_w]
                     refine wpK_no rfl ?_
                     simp only [Act.put, nm1, nm2, nm3, i64_w]
                     refine wpK_no rfl ?_
                     simp only [Act.put, nm1, nm2, nm3, i64_w]
                     refine wpK_no rfl ?_
                     simp only [Act.put, nm1, nm2, nm3, i64_w]
                     refine wpK_no rfl ?_
                     simp only [Act.put, nm1, nm2, nm3, i64_w]
                     refine wpK_no rfl ?_
                     simp only [Act.put, nm1, nm2, nm3, i64_w]
                     refine wpK_no rfl ?_
                     simp only [Act.put, nm1, nm2, nm3, i64_w]
                     refine wpK_no rfl ?_
                     simp only [Act.put, nm1, nm2, nm3, i64_w]
                     refine wpK_no rfl ?_
                     simp only [Act.put, nm1, nm2, nm3, i64_w]
                     refine wpK_no rfl ?_
                     simp only [Act.put, nm1, nm2, nm3, i64_w]
                     refine wpK_no rfl ?_
                     simp only [Act.put, nm1, nm2, nm3, i64_w]
                     refine wpK_no rfl ?_
                     simp only [Act.put, nm1, nm2, nm3, i64_w]
                     refine wpK_no rfl ?_
                     simp only [Act.put, nm1, nm2, nm3, i64_w]
                     refine wpK_no rfl ?_
                     simp only [Act.put, nm1, nm2, nm3, i64_w]
                     refine wpK_ops rfl (fun w1 hu => ?_) ?_
                     · clear hu
                       go_simp
                       first | done | rfl
                     simp only [Act.put, nm1, nm2, nm3, i64_w]
                     refine wpK_ops rfl (fun w1 hu => ?_) ?_
                     · clear hu
                       go_simp
                       first | done | rfl
                     simp only [Act.put, nm1, nm2, nm3, i64_w]
                     refine wpK_no rfl ?_
                     simp only [Act.put, nm1, nm2, nm3, i64_w]
                     refine wpK_no rfl ?_
                     simp only [Act.put, nm1, nm2, nm3, i64_w]
                     refine wpK_no rfl ?_
                     simp only [Act.put, nm1, nm2, nm3, i64_w]
                     refine wpK_no rfl ?_
                     simp only [Act.put, nm1, nm2, nm3, i64_w]
                     refine wpK_no rfl ?_
                     simp only [Act.put, nm1, nm2, nm3, i64_w]
                     refine wpK_no rfl ?_
                     simp only [Act.put, nm1, nm2, nm3, i64_w]
                     refine wpK_no rfl ?_
                     simp only [Act.put, nm1, nm2, nm3, i64_w]
                     refine wpK_no rfl ?_
                     simp only [Act.put, nm1, nm2, nm3, i64_w]
                     refine wpK_no rfl ?_
                     simp only [Act.put, nm1, nm2, nm3, i64_w]
                     refine wpK_no rfl ?_
                     simp only [Act.put, nm1, nm2, nm3, i64_w]
                     refine wpK_no rfl ?_
                     simp only [Act.put, nm1, nm2, nm3, i64_w]
                     refine wpK_no rfl ?_
                     simp only [Act.put, nm1, nm2, nm3, i64_w]
                     refine wpK_no rfl ?_
                     simp only [Act.put, nm1, nm2, nm3, i64_w]
                     refine wpK_no rfl ?_
                     simp only [Act.put, nm1, nm2, nm3, i64_w]
                     refine wpK_no rfl ?_
                     simp only [Act.put, nm1, nm2, nm3, i64_w]
                     refine wpK_ops rfl (fun w1 hu => ?_) ?_
                     · clear hu
                       go_simp
                       first | done | rfl
                     simp only [Act.put, nm1, nm2, nm3, i64_w]
                     refine wpK_nil ?_
                     intro w380 hu hap
                     simp only [List.drop_succ_cons, List.drop_zero]
                     replace hu := (Up.refl _).drew.trans hu
                     clear hap
                     have hu381 := Aside0.mk hu
                     clear hu
                     refine wpList_nil ?_
                     (try simp only [Exit.then, Exit.inBlock, ↓reduceIte, Nat.reduceEqDiff])
                     refine hK320 _ _ ?_
                     as_aux_lemma =>
                     refine wp_cond_true rfl ?_
                     refine wp_seq_k (fun K382 hK382 => ?_)
                     refine wp_region_lit ?_
                     refine wpList_plain rfl (fun Ko hKo => ?_)
                     go_simp
                     refine hKo _ _ ?_
                     clear hKo Ko
                     try simp only [Act.put, nm1, nm2, nm3, i64_w]
                     refine wpList_nil ?_
                     (try simp only [Exit.then, Exit.inBlock, ↓reduceIte, Nat.reduceEqDiff])
                     refine hK382 _ _ ?_
                     refine wp_ret ?_
                     (try simp only [Exit.then, Exit.inBlock, ↓reduceIte, Nat.reduceEqDiff])
                     refine hQf _ _ _ ?_
                     exact bodyPost_ret (v := .bool false) (by first | rfl | (simp [results, Try.results3, go_sem]; done) | (simp [results, Try.results3, go_sem]; rfl)) rfl ⟨rfl, (((hm263.out.trans hu286.out).trans hu292.out).trans hu381.out)⟩
                 ·
                  rw [if_neg c314] at H
                  replace c314 := Bool.eq_false_iff.mpr c314
                  have c314n : (t283 != 0) = true := by rw [bne, c314]; rfl
                  have c314p : ¬ t283 = 0 := fun e => by simp [e] at c314
                  try simp only [c314, c314n, Bool.not_true, Bool.not_false]
                  by_cases c383 : (t146 == 0) = true
                  ·
                   rw [if_pos c383] at H
                   have c383n : (t146 != 0) = false := by rw [bne, c383]; rfl
                   have HL386 := Aside0.mk H
                   clear H
                   try simp only [c383, c383n, Bool.not_true, Bool.not_false]
                   refine wpList_step (fun Ko hKo => ?_)
                   go_simp
                   refine hKo _ _ ?_
                   clear hKo Ko
                   try simp only [Act.put, nm1, nm2, nm3, i64_w]
                   refine wpList_plain rfl (fun Ko hKo => ?_)
                   go_simp
                   refine hKo _ _ ?_
                   clear hKo Ko
                   try simp only [Act.put, nm1, nm2, nm3, i64_w]
                   refine wpList_nil ?_
                   (try simp only [Exit.then, Exit.inBlock, ↓reduceIte, Nat.reduceEqDiff])
                   refine hK294 _ _ ?_
                   refine wp_cond_false rfl ?_
                   refine wp_skip ?_
                   (try simp only [Exit.then, Exit.inBlock, ↓reduceIte, Nat.reduceEqDiff])
                   refine hK293 _ _ ?_
                   refine wp_seq_k (fun K384 hK384 => ?_)
                   refine wp_seq_k (fun K385 hK385 => ?_)
                   refine wp_region_lit ?_
                   refine wpList_plain rfl (fun Ko hKo => ?_)
                   go_simp
                   refine hKo _ _ ?_
                   clear hKo Ko
                   try simp only [Act.put, nm1, nm2, nm3, i64_w]
                   refine wpList_plain rfl (fun Ko hKo => ?_)
                   go_simp
                   refine hKo _ _ ?_
                   clear hKo Ko
                   try simp only [Act.put, nm1, nm2, nm3, i64_w]
                   refine wpList_nil ?_
                   (try simp only [Exit.then, Exit.inBlock, ↓reduceIte, Nat.reduceEqDiff])
                   refine hK385 _ _ ?_
                   refine wp_cond_true rfl ?_
                   refine wp_exit ?_
                   (try simp only [Exit.then, Exit.inBlock, ↓reduceIte, Nat.reduceEqDiff])
                   refine hK132 _ _ ?_
                   refine wp_region_lit ?_
                   refine wpList_plain rfl (fun Ko hKo => ?_)
                   go_simp
                   refine hKo _ _ ?_
                   clear hKo Ko
                   try simp only [Act.put, nm1, nm2, nm3, i64_w]
                   refine wpList_plain rfl (fun Ko hKo => ?_)
                   go_simp
                   refine hKo _ _ ?_
                   clear hKo Ko
                   try simp only [Act.put, nm1, nm2, nm3, i64_w]
                   refine wpList_plain rfl (fun Ko hKo => ?_)
                   go_simp
                   refine hKo _ _ ?_
                   clear hKo Ko
                   try simp only [Act.put, nm1, nm2, nm3, i64_w]
                   refine wpList_nil ?_
                   (try simp only [Exit.then, Exit.inBlock, ↓reduceIte, Nat.reduceEqDiff])
                   refine hK126 _ _ ?_
                   go_roundg k122
                   case measure => exact Nat.lt_succ_self _
                   case rel => exact ⟨wrap64 (x110 + 1), t172, t173, (by first | rfl | simp), HL386, ⟨by have := hk123.out; omega⟩, ⟨((hm265.out.trans hu286.out).trans hu292.out)⟩, ⟨(Nat.le_trans ((Nat.le_trans (hm267.out) hu286.out.size)) hu292.out.size)⟩, (h268.up (hu286.out.trans hu292.out)), (h269.up (hu286.out.trans hu292.out)), (h270.up (hu286.out.trans hu292.out)), (h271.up (hu286.out.trans hu292.out)), (h272.up (hu286.out.trans hu292.out))⟩
                  ·
                   rw [if_neg c383] at H
                   replace c383 := Bool.eq_false_iff.mpr c383
                   have c383n : (t146 != 0) = true := by rw [bne, c383]; rfl
                   have c383p : ¬ t146 = 0 := fun e => by simp [e] at c383
                   obtain rfl := Option.some.inj H
                   try simp only [c383, c383n, Bool.not_true, Bool.not_false]
                   refine wpList_step (fun Ko hKo => ?_)
                   go_simp
                   refine hKo _ _ ?_
                   clear hKo Ko
                   try simp only [Act.put, nm1, nm2, nm3, i64_w]
                   refine wpList_plain rfl (fun Ko hKo => ?_)
                   go_simp
                   refine hKo _ _ ?_
                   clear hKo Ko
                   try simp only [Act.put, nm1, nm2, nm3, i64_w]
                   refine wpList_nil ?_
                   (try simp only [Exit.then, Exit.inBlock, ↓reduceIte, Nat.reduceEqDiff])
                   refine hK294 _ _ ?_
                   refine wp_cond_true rfl ?_
                   refine wp_seq_k (fun K387 hK387 => ?_)
                   refine wp_region_lit ?_
                   refine wpList_plain rfl (fun Ko hKo => ?_)
                   go_simp
                   refine hKo _ _ ?_
                   clear hKo Ko
                   try simp only [Act.put, nm1, nm2, nm3, i64_w]
                   refine wpList_nil ?_
                   (try simp only [Exit.then, Exit.inBlock, ↓reduceIte, Nat.reduceEqDiff])
                   refine hK387 _ _ ?_
                   refine wp_ret ?_
                   (try simp only [Exit.then, Exit.inBlock, ↓reduceIte, Nat.reduceEqDiff])
                   refine hQf _ _ _ ?_
                   exact bodyPost_ret (v := .bool false) (by first | rfl | (simp [results, Try.results3, go_sem]; done) | (simp [results, Try.results3, go_sem]; rfl)) rfl ⟨rfl, ((hm263.out.trans hu286.out).trans hu292.out)⟩
             ·
              rw [if_neg c295] at H
              replace c295 := Bool.eq_false_iff.mpr c295
              have c295n : (t289 != 0) = true := by rw [bne, c295]; rfl
              have c295p : ¬ t289 = 0 := fun e => by simp [e] at c295
              obtain rfl := Option.some.inj H
              try simp only [c295, c295n, Bool.not_true, Bool.not_false]
              refine step_no rfl ?_
              simp only [Act.put, nm1, nm2, nm3, i64_w]
              refine step_no rfl ?_
              simp only [Act.put, nm1, nm2, nm3, i64_w]
              refine step_no rfl ?_
              simp only [Act.put, nm1, nm2, nm3, i64_w]
              refine step_no rfl ?_
              simp only [Act.put, nm1, nm2, nm3, i64_w]
              refine step_no rfl ?_
              simp only [Act.put, nm1, nm2, nm3, i64_w]
              refine step_no rfl ?_
              simp only [Act.put, nm1, nm2, nm3, i64_w]
              refine step_no rfl ?_
              simp only [Act.put, nm1, nm2, nm3, i64_w]
              refine step_no rfl ?_
              simp only [Act.put, nm1, nm2, nm3, i64_w]
              refine step_no rfl ?_
              simp only [Act.put, nm1, nm2, nm3, i64_w]
              refine step_no rfl ?_
              simp only [Act.put, nm1, nm2, nm3, i64_w]
              refine step_no rfl ?_
              simp only [Act.put, nm1, nm2, nm3, i64_w]
              refine step_no rfl ?_
              simp only [Act.put, nm1, nm2, nm3, i64_w]
              refine step_no rfl ?_
              simp only [Act.put, nm1, nm2, nm3, i64_w]
              refine step_no rfl ?_
              simp only [Act.put, nm1, nm2, nm3, i64_w]
              refine step_no rfl ?_
              simp only [Act.put, nm1, nm2, nm3, i64_w]
              refine step_no rfl ?_
              simp only [Act.put, nm1, nm2, nm3, i64_w]
              refine step_no rfl ?_
              simp only [Act.put, nm1, nm2, nm3, i64_w]
              refine wpList_plain rfl (fun Ko hKo => ?_)
              go_simp
              refine hKo _ _ ?_
              clear hKo Ko
              try simp only [Act.put, nm1, nm2, nm3, i64_w]
              refine wpList_nil ?_
              (try simp only [Exit.then, Exit.inBlock, ↓reduceIte, Nat.reduceEqDiff])
              refine hK294 _ _ ?_
              as_aux_lemma =>
              refine wp_cond_true rfl ?_
              refine wp_seq_k (fun K388 hK388 => ?_)
              refine wp_region_lit ?_
              refine wpList_plain rfl (fun Ko hKo => ?_)
              go_simp
              refine hKo _ _ ?_
              clear hKo Ko
              try simp only [Act.put, nm1, nm2, nm3, i64_w]
              refine wpList_nil ?_
              (try simp only [Exit.then, Exit.inBlock, ↓reduceIte, Nat.reduceEqDiff])
              refine hK388 _ _ ?_
              refine wp_ret ?_
              (try simp only [Exit.then, Exit.inBlock, ↓reduceIte, Nat.reduceEqDiff])
              refine hQf _ _ _ ?_
              exact bodyPost_ret (v := .bool false) (by first | rfl | (simp [results, Try.results3, go_sem]; done) | (simp [results, Try.results3, go_sem]; rfl)) rfl ⟨rfl, ((hm263.out.trans hu286.out).trans hu292.out)⟩
            ·
             rw [if_neg c278] at H
             replace c278 := Bool.eq_false_iff.mpr c278
             have c278n : (t256 != t134) = true := by rw [bne, c278]; rfl
             have c278p : ¬ t256 = t134 := fun e => by simp [e] at c278
             obtain rfl := Option.some.inj H
             try simp only [c278, c278n, Bool.not_true, Bool.not_false]
             refine wp_cond_true rfl ?_
             refine wp_seq_k (fun K389 hK389 => ?_)
             refine wp_region_lit ?_
             refine wpList_plain rfl (fun Ko hKo => ?_)
             go_simp
             refine hKo _ _ ?_
             clear hKo Ko
             try simp only [Act.put, nm1, nm2, nm3, i64_w]
             refine wpList_nil ?_
             (try simp only [Exit.then, Exit.inBlock, ↓reduceIte, Nat.reduceEqDiff])
             refine hK389 _ _ ?_
             refine wp_ret ?_
             (try simp only [Exit.then, Exit.inBlock, ↓reduceIte, Nat.reduceEqDiff])
             refine hQf _ _ _ ?_
             exact bodyPost_ret (v := .bool false) (by first | rfl | (simp [results, Try.results3, go_sem]; done) | (simp [results, Try.results3, go_sem]; rfl)) rfl ⟨rfl, hm263.out⟩
           ·
            rw [if_neg c277] at H
            replace c277 := Bool.eq_false_iff.mpr c277
            have c277n : (t257 != 0) = true := by rw [bne, c277]; rfl
            have c277p : ¬ t257 = 0 := fun e => by simp [e] at c277
            obtain rfl := Option.some.inj H
            try simp only [c277, c277n, Bool.not_true, Bool.not_false]
            refine step_no rfl ?_
            simp only [Act.put, nm1, nm2, nm3, i64_w]
            refine step_no rfl ?_
            simp only [Act.put, nm1, nm2, nm3, i64_w]
            refine step_no rfl ?_
            simp only [Act.put, nm1, nm2, nm3, i64_w]
            refine wpList_plain rfl (fun Ko hKo => ?_)
            go_simp
            refine hKo _ _ ?_
            clear hKo Ko
            try simp only [Act.put, nm1, nm2, nm3, i64_w]
            refine wpList_nil ?_
            (try simp only [Exit.then, Exit.inBlock, ↓reduceIte, Nat.reduceEqDiff])
            refine hK261 _ _ ?_
            refine wp_cond_true rfl ?_
            refine wp_seq_k (fun K390 hK390 => ?_)
            refine wp_region_lit ?_
            refine wpList_plain rfl (fun Ko hKo => ?_)
            go_simp
            refine hKo _ _ ?_
            clear hKo Ko
            try simp only [Act.put, nm1, nm2, nm3, i64_w]
            refine wpList_nil ?_
            (try simp only [Exit.then, Exit.inBlock, ↓reduceIte, Nat.reduceEqDiff])
            refine hK390 _ _ ?_
            refine wp_ret ?_
            (try simp only [Exit.then, Exit.inBlock, ↓reduceIte, Nat.reduceEqDiff])
            refine hQf _ _ _ ?_
            exact bodyPost_ret (v := .bool false) (by first | rfl | (simp [results, Try.results3, go_sem]; done) | (simp [results, Try.results3, go_sem]; rfl)) rfl ⟨rfl, hm263.out⟩
          ·
           rw [if_neg c276] at H
           replace c276 := Bool.eq_false_iff.mpr c276
           have c276n : (t245 != 0) = true := by rw [bne, c276]; rfl
           have c276p : ¬ t245 = 0 := fun e => by simp [e] at c276
           obtain rfl := Option.some.inj H
           try simp only [c276, c276n, Bool.not_true, Bool.not_false]
           refine step_no rfl ?_
           simp only [Act.put, nm1, nm2, nm3, i64_w]
           refine step_no rfl ?_
           simp only [Act.put, nm1, nm2, nm3, i64_w]
           refine wpList_plain rfl (fun Ko hKo => ?_)
           go_simp
           refine hKo _ _ ?_
           clear hKo Ko
           try simp only [Act.put, nm1, nm2, nm3, i64_w]
           refine wpList_plain rfl (fun Ko hKo => ?_)
           go_simp
           refine hKo _ _ ?_
           clear hKo Ko
           try simp only [Act.put, nm1, nm2, nm3, i64_w]
           refine step_no rfl ?_
           simp only [Act.put, nm1, nm2, nm3, i64_w]
           refine step_no rfl ?_
           simp only [Act.put, nm1, nm2, nm3, i64_w]
           refine step_no rfl ?_
           simp only [Act.put, nm1, nm2, nm3, i64_w]
           refine wpList_plain rfl (fun Ko hKo => ?_)
           go_simp
           refine hKo _ _ ?_
           clear hKo Ko
           try simp only [Act.put, nm1, nm2, nm3, i64_w]
           refine wpList_nil ?_
           (try simp only [Exit.then, Exit.inBlock, ↓reduceIte, Nat.reduceEqDiff])
           refine hK261 _ _ ?_
           refine wp_cond_true rfl ?_
           refine wp_seq_k (fun K391 hK391 => ?_)
           refine wp_region_lit ?_
           refine wpList_plain rfl (fun Ko hKo => ?_)
           go_simp
           refine hKo _ _ ?_
           clear hKo Ko
           try simp only [Act.put, nm1, nm2, nm3, i64_w]
           refine wpList_nil ?_
           (try simp only [Exit.then, Exit.inBlock, ↓reduceIte, Nat.reduceEqDiff])
           refine hK391 _ _ ?_
           refine wp_ret ?_
           (try simp only [Exit.then, Exit.inBlock, ↓reduceIte, Nat.reduceEqDiff])
           refine hQf _ _ _ ?_
           exact bodyPost_ret (v := .bool false) (by first | rfl | (simp [results, Try.results3, go_sem]; done) | (simp [results, Try.results3, go_sem]; rfl)) rfl ⟨rfl, hm263.out⟩
         ·
          rw [if_neg c262] at H
          replace c262 := Bool.eq_false_iff.mpr c262
          have c262n : (t232 != 0) = true := by rw [bne, c262]; rfl
          have c262p : ¬ t232 = 0 := fun e => by simp [e] at c262
          obtain rfl := Option.some.inj H
          try simp only [c262, c262n, Bool.not_true, Bool.not_false]
          refine step_no rfl ?_
          simp only [Act.put, nm1, nm2, nm3, i64_w]
          refine step_no rfl ?_
          simp only [Act.put, nm1, nm2, nm3, i64_w]
          refine wpList_plain rfl (fun Ko hKo => ?_)
          go_simp
          refine hKo _ _ ?_
          clear hKo Ko
          try simp only [Act.put, nm1, nm2, nm3, i64_w]
          refine wpList_plain rfl (fun Ko hKo => ?_)
          go_simp
          refine hKo _ _ ?_
          clear hKo Ko
          try simp only [Act.put, nm1, nm2, nm3, i64_w]
          refine step_no rfl ?_
          simp only [Act.put, nm1, nm2, nm3, i64_w]
          refine step_no rfl ?_
          simp only [Act.put, nm1, nm2, nm3, i64_w]
          refine wpList_plain rfl (fun Ko hKo => ?_)
          go_simp
          refine hKo _ _ ?_
          clear hKo Ko
          try simp only [Act.put, nm1, nm2, nm3, i64_w]
          refine wpList_plain rfl (fun Ko hKo => ?_)
          go_simp
          refine hKo _ _ ?_
          clear hKo Ko
          try simp only [Act.put, nm1, nm2, nm3, i64_w]
          refine step_no rfl ?_
          simp only [Act.put, nm1, nm2, nm3, i64_w]
          refine step_no rfl ?_
          simp only [Act.put, nm1, nm2, nm3, i64_w]
          refine step_no rfl ?_
          simp only [Act.put, nm1, nm2, nm3, i64_w]
          refine wpList_plain rfl (fun Ko hKo => ?_)
          go_simp
          refine hKo _ _ ?_
          clear hKo Ko
          try simp only [Act.put, nm1, nm2, nm3, i64_w]
          refine wpList_nil ?_
          (try simp only [Exit.then, Exit.inBlock, ↓reduceIte, Nat.reduceEqDiff])
          refine hK261 _ _ ?_
          as_aux_lemma =>
          refine wp_cond_true rfl ?_
          refine wp_seq_k (fun K392 hK392 => ?_)
          refine wp_region_lit ?_
          refine wpList_plain rfl (fun Ko hKo => ?_)
          go_simp
          refine hKo _ _ ?_
          clear hKo Ko
          try simp only [Act.put, nm1, nm2, nm3, i64_w]
          refine wpList_nil ?_
          (try simp only [Exit.then, Exit.inBlock, ↓reduceIte, Nat.reduceEqDiff])
          refine hK392 _ _ ?_
          refine wp_ret ?_
          (try simp only [Exit.then, Exit.inBlock, ↓reduceIte, Nat.reduceEqDiff])
          refine hQf _ _ _ ?_
          exact bodyPost_ret (v := .bool false) (by first | rfl | (simp [results, Try.results3, go_sem]; done) | (simp [results, Try.results3, go_sem]; rfl)) rfl ⟨rfl, hm263.out⟩
        ·
         rw [if_neg c226] at H
         replace c226 := Bool.eq_false_iff.mpr c226
         have c226n : (t202 != 0) = true := by rw [bne, c226]; rfl
         have c226p : ¬ t202 = 0 := fun e => by simp [e] at c226
         try simp only [c226, c226n, Bool.not_true, Bool.not_false]
         refine wpList_step (fun Ko hKo => ?_)
         go_simp
         refine hKo _ _ ?_
         clear hKo Ko
         try simp only [Act.put, nm1, nm2, nm3, i64_w]
         refine wpList_step (fun Ko hKo => ?_)
         go_simp
         refine hKo _ _ ?_
         clear hKo Ko
         try simp only [Act.put, nm1, nm2, nm3, i64_w]
         refine wpList_step (fun Ko hKo => ?_)
         go_simp
         refine hKo _ _ ?_
         clear hKo Ko
         try simp only [Act.put, nm1, nm2, nm3, i64_w]
         refine wpList_plain rfl (fun Ko hKo => ?_)
         go_simp
         refine hKo _ _ ?_
         clear hKo Ko
         try simp only [Act.put, nm1, nm2, nm3, i64_w]
         refine wpList_nil ?_
         (try simp only [Exit.then, Exit.inBlock, ↓reduceIte, Nat.reduceEqDiff])
         refine hK213 _ _ ?_
         by_cases c393 : (t202 == 5) = true
         ·
          rw [if_pos c393] at H
          have c393n : (t202 != 5) = false := by rw [bne, c393]; rfl
          replace H := Option.bind_eq_some_iff.mp H
          obtain ⟨⟨t397, t400⟩, A401, H⟩ := H
          replace A401 := Aside0.mk A401
          try dsimp only at H
          replace H := Option.bind_eq_some_iff.mp H
          obtain ⟨⟨t405, t406⟩, A407, H⟩ := H
          replace A407 := Aside0.mk A407
          try dsimp only at H
          try simp only [c393, c393n, Bool.not_true, Bool.not_false]
          refine wp_cond_false rfl ?_
          refine wp_skip ?_
          (try simp only [Exit.then, Exit.inBlock, ↓reduceIte, Nat.reduceEqDiff])
          refine hK212 _ _ ?_
          refine wp_seq_k (fun K394 hK394 => ?_)
          refine wp_seq_k (fun K395 hK395 => ?_)
          refine wp_region_lit ?_
          refine wpList_plain rfl (fun Ko hKo => ?_)
          go_simp
          refine hKo _ _ ?_
          clear hKo Ko
          try simp only [Act.put, nm1, nm2, nm3, i64_w]
          refine wpList_plain rfl (fun Ko hKo => ?_)
          go_simp
          refine hKo _ _ ?_
          clear hKo Ko
          try simp only [Act.put, nm1, nm2, nm3, i64_w]
          refine wpList_nil ?_
          (try simp only [Exit.then, Exit.inBlock, ↓reduceIte, Nat.reduceEqDiff])
          refine hK395 _ _ ?_
          refine wp_cond_false rfl ?_
          refine wp_skip ?_
          (try simp only [Exit.then, Exit.inBlock, ↓reduceIte, Nat.reduceEqDiff])
          refine hK394 _ _ ?_
          refine wp_seq_k (fun K396 hK396 => ?_)
          refine wp_region_lit ?_
          refine wpList_plain rfl (fun Ko hKo => ?_)
          go_simp
          refine hKo _ _ ?_
          clear hKo Ko
          try simp only [Act.put, nm1, nm2, nm3, i64_w]
          refine wpList_plain rfl (fun Ko hKo => ?_)
          go_simp
          refine hKo _ _ ?_
          clear hKo Ko
          try simp only [Act.put, nm1, nm2, nm3, i64_w]
          have cl0 := h222.cell (o := 0) rfl
          have cl1 := h222.cell (o := 1) rfl
          refine wpList_plain rfl (fun Ko hKo => ?_)
          go_simp
          refine hKo _ _ ?_
          clear hKo Ko
          clear cl0 cl1
          try simp only [Act.put, nm1, nm2, nm3, i64_w]
          have cl0 := h223.cell (o := 0) rfl
          have cl1 := h223.cell (o := 1) rfl
          refine wpList_plain rfl (fun Ko hKo => ?_)
          go_simp
          refine hKo _ _ ?_
          clear hKo Ko
          clear cl0 cl1
          try simp only [Act.put, nm1, nm2, nm3, i64_w]
          have cl0 := h224.cell (o := 0) rfl
          have cl1 := h224.cell (o := 1) rfl
          refine wpList_plain rfl (fun Ko hKo => ?_)
          go_simp
          refine hKo _ _ ?_
          clear hKo Ko
          clear cl0 cl1
          try simp only [Act.put, nm1, nm2, nm3, i64_w]
          refine step_call (wanted_none rfl) (by first | (go_simp; done) | (go_simp; rfl)) (impl_SpreadsOfTriangle.calls K t30 x110 t36 t44 t52 t60 t68 t76 t397 t400 w209  A401.out) ?_
          rintro e w402 ⟨P398, q399, rfl, ht397, hu⟩
          have hu403 := Aside0.mk hu
          clear hu
          refine ⟨_, rfl, ?_⟩
          simp only [Act.put, nm1, nm2, nm3, i64_w]
          refine wpList_plain rfl (fun Ko hKo => ?_)
          go_simp
          refine hKo _ _ ?_
          clear hKo Ko
          try simp only [Act.put, nm1, nm2, nm3, i64_w]
          refine wpList_plain rfl (fun Ko hKo => ?_)
          go_simp
          refine hKo _ _ ?_
          clear hKo Ko
          try simp only [Act.put, nm1, nm2, nm3, i64_w]
          refine wpList_plain rfl (fun Ko hKo => ?_)
          go_simp
          refine hKo _ _ ?_
          clear hKo Ko
          try simp only [Act.put, nm1, nm2, nm3, i64_w]
          refine wpList_plain rfl (fun Ko hKo => ?_)
          go_simp
          refine hKo _ _ ?_
          clear hKo Ko
          try simp only [Act.put, nm1, nm2, nm3, i64_w]
          refine wpList_plain rfl (fun Ko hKo => ?_)
          go_simp
          refine hKo _ _ ?_
          clear hKo Ko
          try simp only [Act.put, nm1, nm2, nm3, i64_w]
          refine wpList_nil ?_
          (try simp only [Exit.then, Exit.inBlock, ↓reduceIte, Nat.reduceEqDiff])
          refine hK396 _ _ ?_
          as_aux_lemma =>
          refine wp_seq_k (fun K404 hK404 => ?_)
          refine wp_region_lit ?_
          refine wpList_plain rfl (fun Ko hKo => ?_)
          go_simp
          refine hKo _ _ ?_
          clear hKo Ko
          try simp only [Act.put, nm1, nm2, nm3, i64_w]
          have cl0 := (h222.up hu403.out).cell (o := 0) rfl
          have cl1 := (h222.up hu403.out).cell (o := 1) rfl
          refine wpList_plain rfl (fun Ko hKo => ?_)
          go_simp
          refine hKo _ _ ?_
          clear hKo Ko
          clear cl0 cl1
          try simp only [Act.put, nm1, nm2, nm3, i64_w]
          have cl0 := (h223.up hu403.out).cell (o := 0) rfl
          have cl1 := (h223.up hu403.out).cell (o := 1) rfl
          refine wpList_plain rfl (fun Ko hKo => ?_)
          go_simp
          refine hKo _ _ ?_
          clear hKo Ko
          clear cl0 cl1
          try simp only [Act.put, nm1, nm2, nm3, i64_w]
          have cl0 := (h224.up hu403.out).cell (o := 0) rfl
          have cl1 := (h224.up hu403.out).cell (o := 1) rfl
          refine wpList_plain rfl (fun Ko hKo => ?_)
          go_simp
          refine hKo _ _ ?_
          clear hKo Ko
          clear cl0 cl1
          try simp only [Act.put, nm1, nm2, nm3, i64_w]
          refine step_call (wanted_none rfl) (by first | (go_simp; done) | (go_simp; rfl)) (impl_DoubledArea.calls K t30 t36 t44 t52 t60 t68 t76 t405 t406 w402  A407.out) ?_
          rintro e w408 ⟨rfl, hu⟩
          have hu409 := Aside0.mk hu
          clear hu
          refine ⟨_, rfl, ?_⟩
          simp only [Act.put, nm1, nm2, nm3, i64_w]
          refine wpList_plain rfl (fun Ko hKo => ?_)
          go_simp
          refine hKo _ _ ?_
          clear hKo Ko
          try simp only [Act.put, nm1, nm2, nm3, i64_w]
          refine wpList_plain rfl (fun Ko hKo => ?_)
          go_simp
          refine hKo _ _ ?_
          clear hKo Ko
          try simp only [Act.put, nm1, nm2, nm3, i64_w]
          refine wpList_plain rfl (fun Ko hKo => ?_)
          go_simp
          refine hKo _ _ ?_
          clear hKo Ko
          try simp only [Act.put, nm1, nm2, nm3, i64_w]
          refine wpList_plain rfl (fun Ko hKo => ?_)
          go_simp
          refine hKo _ _ ?_
          clear hKo Ko
          try simp only [Act.put, nm1, nm2, nm3, i64_w]
          refine wpList_plain rfl (fun Ko hKo => ?_)
          go_simp
          refine hKo _ _ ?_
          clear hKo Ko
          try simp only [Act.put, nm1, nm2, nm3, i64_w]
          refine wpList_nil ?_
          (try simp only [Exit.then, Exit.inBlock, ↓reduceIte, Nat.reduceEqDiff])
          refine hK404 _ _ ?_
          refine wp_seq_k (fun K410 hK410 => ?_)
          refine wp_seq_k (fun K411 hK411 => ?_)
          refine wp_region_lit ?_
          refine wpList_plain rfl (fun Ko hKo => ?_)
          go_simp
          refine hKo _ _ ?_
          clear hKo Ko
          try simp only [Act.put, nm1, nm2, nm3, i64_w]
          refine wpList_plain rfl (fun Ko hKo => ?_)
          go_simp
          refine hKo _ _ ?_
          clear hKo Ko
          try simp only [Act.put, nm1, nm2, nm3, i64_w]
          refine wpList_plain rfl (fun Ko hKo => ?_)
          go_simp
          refine hKo _ _ ?_
          clear hKo Ko
          try simp only [Act.put, nm1, nm2, nm3, i64_w]
          by_cases c412 : (t406 == 0) = true
          ·
           rw [if_pos c412] at H
           have c412n : (t406 != 0) = false := by rw [bne, c412]; rfl
           try simp only [c412, c412n, Bool.not_true, Bool.not_false]
           refine wpList_step (fun Ko hKo => ?_)
           go_simp
           refine hKo _ _ ?_
           clear hKo Ko
           try simp only [Act.put, nm1, nm2, nm3, i64_w]
           refine wpList_step (fun Ko hKo => ?_)
           go_simp
           refine hKo _ _ ?_
           clear hKo Ko
           try simp only [Act.put, nm1, nm2, nm3, i64_w]
           refine wpList_step (fun Ko hKo => ?_)
           go_simp
           refine hKo _ _ ?_
           clear hKo Ko
           try simp only [Act.put, nm1, nm2, nm3, i64_w]
           refine wpList_step (fun Ko hKo => ?_)
           go_simp
           refine hKo _ _ ?_
           clear hKo Ko
           try simp only [Act.put, nm1, nm2, nm3, i64_w]
           refine wpList_step (fun Ko hKo => ?_)
           go_simp
           refine hKo _ _ ?_
           clear hKo Ko
           try simp only [Act.put, nm1, nm2, nm3, i64_w]
           by_cases c413 : (t405 == 0) = true
           ·
            rw [if_pos c413] at H
            have c413n : (t405 != 0) = false := by rw [bne, c413]; rfl
            try simp only [c413, c413n, Bool.not_true, Bool.not_false]
            refine step_no rfl ?_
            simp only [Act.put, nm1, nm2, nm3, i64_w]
            refine step_no rfl ?_
            simp only [Act.put, nm1, nm2, nm3, i64_w]
            refine wpList_step (fun Ko hKo => ?_)
            go_simp
            refine hKo _ _ ?_
            clear hKo Ko
            try simp only [Act.put, nm1, nm2, nm3, i64_w]
            refine wpList_step (fun Ko hKo => ?_)
            go_simp
            refine hKo _ _ ?_
            clear hKo Ko
            try simp only [Act.put, nm1, nm2, nm3, i64_w]
            refine step_no rfl ?_
            simp only [Act.put, nm1, nm2, nm3, i64_w]
            refine step_no rfl ?_
            simp only [Act.put, nm1, nm2, nm3, i64_w]
            refine wpList_step (fun Ko hKo => ?_)
            go_simp
            refine hKo _ _ ?_
            clear hKo Ko
            try simp only [Act.put, nm1, nm2, nm3, i64_w]
            refine wpList_step (fun Ko hKo => ?_)
            go_simp
            refine hKo _ _ ?_
            clear hKo Ko
            try simp only [Act.put, nm1, nm2, nm3, i64_w]
            refine step_no rfl ?_
            simp only [Act.put, nm1, nm2, nm3, i64_w]
            refine step_no rfl ?_
            simp only [Act.put, nm1, nm2, nm3, i64_w]
            refine wpList_step (fun Ko hKo => ?_)
            go_simp
            refine hKo _ _ ?_
            clear hKo Ko
            try simp only [Act.put, nm1, nm2, nm3, i64_w]
            by_cases c414 : (t400 == 0) = true
            ·
             rw [if_pos c414] at H
             have c414n : (t400 != 0) = false := by rw [bne, c414]; rfl
             obtain rfl := Option.some.inj H
             try simp only [c414, c414n, Bool.not_true, Bool.not_false]
             refine wpList_step (fun Ko hKo => ?_)
             go_simp
             refine hKo _ _ ?_
             clear hKo Ko
             try simp only [Act.put, nm1, nm2, nm3, i64_w]
             refine wpList_plain rfl (fun Ko hKo => ?_)
             go_simp
             refine hKo _ _ ?_
             clear hKo Ko
             try simp only [Act.put, nm1, nm2, nm3, i64_w]
             refine wpList_nil ?_
             (try simp only [Exit.then, Exit.inBlock, ↓reduceIte, Nat.reduceEqDiff])
             refine hK411 _ _ ?_
             as_aux_lemma =>
             refine wp_cond_true rfl ?_
             refine wp_seq_k (fun K415 hK415 => ?_)
             refine wp_region_lit ?_
             refine wpList_plain rfl (fun Ko hKo => ?_)
             go_simp
             refine hKo _ _ ?_
             clear hKo Ko
             try simp only [Act.put, nm1, nm2, nm3, i64_w]
             refine wpList_nil ?_
             (try simp only [Exit.then, Exit.inBlock, ↓reduceIte, Nat.reduceEqDiff])
             refine hK415 _ _ ?_
             refine wp_ret ?_
             (try simp only [Exit.then, Exit.inBlock, ↓reduceIte, Nat.reduceEqDiff])
             refine hQf _ _ _ ?_
             exact bodyPost_ret (v := .bool false) (by first | rfl | (simp [results, Try.results3, go_sem]; done) | (simp [results, Try.results3, go_sem]; rfl)) rfl ⟨rfl, ((hm215.out.trans hu403.out).trans hu409.out)⟩
            ·
             rw [if_neg c414] at H
             replace c414 := Bool.eq_false_iff.mpr c414
             have c414n : (t400 != 0) = true := by rw [bne, c414]; rfl
             have c414p : ¬ t400 = 0 := fun e => by simp [e] at c414
             have HL418 := Aside0.mk H
             clear H
             try simp only [c414, c414n, Bool.not_true, Bool.not_false]
             refine wpList_step (fun Ko hKo => ?_)
             go_simp
             refine hKo _ _ ?_
             clear hKo Ko
             try simp only [Act.put, nm1, nm2, nm3, i64_w]
             refine wpList_plain rfl (fun Ko hKo => ?_)
             go_simp
             refine hKo _ _ ?_
             clear hKo Ko
             try simp only [Act.put, nm1, nm2, nm3, i64_w]
             refine wpList_nil ?_
             (try simp only [Exit.then, Exit.inBlock, ↓reduceIte, Nat.reduceEqDiff])
             refine hK411 _ _ ?_
             refine wp_cond_false rfl ?_
             refine wp_skip ?_
             (try simp only [Exit.then, Exit.inBlock, ↓reduceIte, Nat.reduceEqDiff])
             refine hK410 _ _ ?_
             refine wp_seq_k (fun K416 hK416 => ?_)
             refine wp_seq_k (fun K417 hK417 => ?_)
             refine wp_region_lit ?_
             refine wpList_plain rfl (fun Ko hKo => ?_)
             go_simp
             refine hKo _ _ ?_
             clear hKo Ko
             try simp only [Act.put, nm1, nm2, nm3, i64_w]
             refine wpList_plain rfl (fun Ko hKo => ?_)
             go_simp
             refine hKo _ _ ?_
             clear hKo Ko
             try simp only [Act.put, nm1, nm2, nm3, i64_w]
             refine wpList_nil ?_
             (try simp only [Exit.then, Exit.inBlock, ↓reduceIte, Nat.reduceEqDiff])
             refine hK417 _ _ ?_
             refine wp_cond_true rfl ?_
             refine wp_exit ?_
             (try simp only [Exit.then, Exit.inBlock, ↓reduceIte, Nat.reduceEqDiff])
             refine hK132 _ _ ?_
             refine wp_region_lit ?_
             refine wpList_plain rfl (fun Ko hKo => ?_)
             go_simp
             refine hKo _ _ ?_
             clear hKo Ko
             try simp only [Act.put, nm1, nm2, nm3, i64_w]
             refine wpList_plain rfl (fun Ko hKo => ?_)
             go_simp
             refine hKo _ _ ?_
             clear hKo Ko
             try simp only [Act.put, nm1, nm2, nm3, i64_w]
             refine wpList_plain rfl (fun Ko hKo => ?_)
             go_simp
             refine hKo _ _ ?_
             clear hKo Ko
             try simp only [Act.put, nm1, nm2, nm3, i64_w]
             refine wpList_nil ?_
             (try simp only [Exit.then, Exit.inBlock, ↓reduceIte, Nat.reduceEqDiff])
             refine hK126 _ _ ?_
             go_roundg k122
             case measure => exact Nat.lt_succ_self _
             case rel => exact ⟨wrap64 (x110 + 1), t172, t173, (by first | rfl | simp), HL418, ⟨by have := hk123.out; omega⟩, ⟨((hm217.out.trans hu403.out).trans hu409.out)⟩, ⟨(Nat.le_trans ((Nat.le_trans (hm219.out) hu403.out.size)) hu409.out.size)⟩, (h220.up (hu403.out.trans hu409.out)), (h221.up (hu403.out.trans hu409.out)), (h222.up (hu403.out.trans hu409.out)), (h223.up (hu403.out.trans hu409.out)), (h224.up (hu403.out.trans hu409.out))⟩
           ·
            rw [if_neg c413] at H
            replace c413 := Bool.eq_false_iff.mpr c413
            have c413n : (t405 != 0) = true := by rw [bne, c413]; rfl
            have c413p : ¬ t405 = 0 := fun e => by simp [e] at c413
            try simp only [c413, c413n, Bool.not_true, Bool.not_false]
            refine wpList_step (fun Ko hKo => ?_)
            go_simp
            refine hKo _ _ ?_
            clear hKo Ko
            try simp only [Act.put, nm1, nm2, nm3, i64_w]
            refine wpList_step (fun Ko hKo => ?_)
            go_simp
            refine hKo _ _ ?_
            clear hKo Ko
            try simp only [Act.put, nm1, nm2, nm3, i64_w]
            refine wpList_step (fun Ko hKo => ?_)
            go_simp
            refine hKo _ _ ?_
            clear hKo Ko
            try simp only [Act.put, nm1, nm2, nm3, i64_w]
            refine wpList_step (fun Ko hKo => ?_)
            go_simp
            refine hKo _ _ ?_
            clear hKo Ko
            try simp only [Act.put, nm1, nm2, nm3, i64_w]
            by_cases c419 : (t134 == 0) = true
            ·
             rw [if_pos c419] at H
             have c419n : (t134 != 0) = false := by rw [bne, c419]; rfl
             try simp only [c419, c419n, Bool.not_true, Bool.not_false]
             refine step_no rfl ?_
             simp only [Act.put, nm1, nm2, nm3, i64_w]
             refine step_no rfl ?_
             simp only [Act.put, nm1, nm2, nm3, i64_w]
             refine wpList_step (fun Ko hKo => ?_)
             go_simp
             refine hKo _ _ ?_
             clear hKo Ko
             try simp only [Act.put, nm1, nm2, nm3, i64_w]
             refine wpList_step (fun Ko hKo => ?_)
             go_simp
             refine hKo _ _ ?_
             clear hKo Ko
             try simp only [Act.put, nm1, nm2, nm3, i64_w]
             refine step_no rfl ?_
             simp only [Act.put, nm1, nm2, nm3, i64_w]
             refine step_no rfl ?_
             simp only [Act.put, nm1, nm2, nm3, i64_w]
             refine wpList_step (fun Ko hKo => ?_)
             go_simp
             refine hKo _ _ ?_
             clear hKo Ko
             try simp only [Act.put, nm1, nm2, nm3, i64_w]
             by_cases c420 : (t400 == 0) = true
             ·
              rw [if_pos c420] at H
              have c420n : (t400 != 0) = false := by rw [bne, c420]; rfl
              obtain rfl := Option.some.inj H
              try simp only [c420, c420n, Bool.not_true, Bool.not_false]
              refine wpList_step (fun Ko hKo => ?_)
              go_simp
              refine hKo _ _ ?_
              clear hKo Ko
              try simp only [Act.put, nm1, nm2, nm3, i64_w]
              refine wpList_plain rfl (fun Ko hKo => ?_)
              go_simp
              refine hKo _ _ ?_
              clear hKo Ko
              try simp only [Act.put, nm1, nm2, nm3, i64_w]
              refine wpList_nil ?_
              (try simp only [Exit.then, Exit.inBlock, ↓reduceIte, Nat.reduceEqDiff])
              refine hK411 _ _ ?_
              as_aux_lemma =>
              refine wp_cond_true rfl ?_
              refine wp_seq_k (fun K421 hK421 => ?_)
              refine wp_region_lit ?_
              refine wpList_plain rfl (fun Ko hKo => ?_)
              go_simp
              refine hKo _ _ ?_
              clear hKo Ko
              try simp only [Act.put, nm1, nm2, nm3, i64_w]
              refine wpList_nil ?_
              (try simp only [Exit.then, Exit.inBlock, ↓reduceIte, Nat.reduceEqDiff])
              refine hK421 _ _ ?_
              refine wp_ret ?_
              (try simp only [Exit.then, Exit.inBlock, ↓reduceIte, Nat.reduceEqDiff])
              refine hQf _ _ _ ?_
              exact bodyPost_ret (v := .bool false) (by first | rfl | (simp [results, Try.results3, go_sem]; done) | (simp [results, Try.results3, go_sem]; rfl)) rfl ⟨rfl, ((hm215.out.trans hu403.out).trans hu409.out)⟩
             ·
              rw [if_neg c420] at H
              replace c420 := Bool.eq_false_iff.mpr c420
              have c420n : (t400 != 0) = true := by rw [bne, c420]; rfl
              have c420p : ¬ t400 = 0 := fun e => by simp [e] at c420
              have HL424 := Aside0.mk H
              clear H
              try simp only [c420, c420n, Bool.not_true, Bool.not_false]
              refine wpList_step (fun Ko hKo => ?_)
              go_simp
              refine hKo _ _ ?_
              clear hKo Ko
              try simp only [Act.put, nm1, nm2, nm3, i64_w]
              refine wpList_plain rfl (fun Ko hKo => ?_)
              go_simp
              refine hKo _ _ ?_
              clear hKo Ko
              try simp only [Act.put, nm1, nm2, nm3, i64_w]
              refine wpList_nil ?_
              (try simp only [Exit.then, Exit.inBlock, ↓reduceIte, Nat.reduceEqDiff])
              refine hK411 _ _ ?_
              refine wp_cond_false rfl ?_
              refine wp_skip ?_
              (try simp only [Exit.then, Exit.inBlock, ↓reduceIte, Nat.reduceEqDiff])
              refine hK410 _ _ ?_
              refine wp_seq_k (fun K422 hK422 => ?_)
              refine wp_seq_k (fun K423 hK423 => ?_)
              refine wp_region_lit ?_
              refine wpList_plain rfl (fun Ko hKo => ?_)
              go_simp
              refine hKo _ _ ?_
              clear hKo Ko
              try simp only [Act.put, nm1, nm2, nm3, i64_w]
              refine wpList_plain rfl (fun Ko hKo => ?_)
              go_simp
              refine hKo _ _ ?_
              clear hKo Ko
              try simp only [Act.put, nm1, nm2, nm3, i64_w]
              refine wpList_nil ?_
              (try simp only [Exit.then, Exit.inBlock, ↓reduceIte, Nat.reduceEqDiff])
              refine hK423 _ _ ?_
              refine wp_cond_true rfl ?_
              refine wp_exit ?_
              (try simp only [Exit.then, Exit.inBlock, ↓reduceIte, Nat.reduceEqDiff])
              refine hK132 _ _ ?_
              refine wp_region_lit ?_
              refine wpList_plain rfl (fun Ko hKo => ?_)
              go_simp
              refine hKo _ _ ?_
              clear hKo Ko
              try simp only [Act.put, nm1, nm2, nm3, i64_w]
              refine wpList_plain rfl (fun Ko hKo => ?_)
              go_simp
              refine hKo _ _ ?_
              clear hKo Ko
              try simp only [Act.put, nm1, nm2, nm3, i64_w]
              refine wpList_plain rfl (fun Ko hKo => ?_)
              go_simp
              refine hKo _ _ ?_
              clear hKo Ko
              try simp only [Act.put, nm1, nm2, nm3, i64_w]
              refine wpList_nil ?_
              (try simp only [Exit.then, Exit.inBlock, ↓reduceIte, Nat.reduceEqDiff])
              refine hK126 _ _ ?_
              go_roundg k122
              case measure => exact Nat.lt_succ_self _
              case rel => exact ⟨wrap64 (x110 + 1), t172, t173, (by first | rfl | simp), HL424, ⟨by have := hk123.out; omega⟩, ⟨((hm217.out.trans hu403.out).trans hu409.out)⟩, ⟨(Nat.le_trans ((Nat.le_trans (hm219.out) hu403.out.size)) hu409.out.size)⟩, (h220.up (hu403.out.trans hu409.out)), (h221.up (hu403.out.trans hu409.out)), (h222.up (hu403.out.trans hu409.out)), (h223.up (hu403.out.trans hu409.out)), (h224.up (hu403.out.trans hu409.out))⟩
            ·
             rw [if_neg c419] at H
             replace c419 := Bool.eq_false_iff.mpr c419
             have c419n : (t134 != 0) = true := by rw [bne, c419]; rfl
             have c419p : ¬ t134 = 0 := fun e => by simp [e] at c419
             try simp only [c419, c419n, Bool.not_true, Bool.not_false]
             refine wpList_step (fun Ko hKo => ?_)
             go_simp
             refine hKo _ _ ?_
             clear hKo Ko
             try simp only [Act.put, nm1, nm2, nm3, i64_w]
             refine wpList_step (fun Ko hKo => ?_)
             go_simp
             refine hKo _ _ ?_
             clear hKo Ko
             try simp only [Act.put, nm1, nm2, nm3, i64_w]
             refine wpList_step (fun Ko hKo => ?_)
             go_simp
             refine hKo _ _ ?_
             clear hKo Ko
             try simp only [Act.put, nm1, nm2, nm3, i64_w]
             refine wpList_step (fun Ko hKo => ?_)
             go_simp
             refine hKo _ _ ?_
             clear hKo Ko
             try simp only [Act.put, nm1, nm2, nm3, i64_w]
             by_cases c425 : (t140 == 0) = true
             ·
              rw [if_pos c425] at H
              have c425n : (t140 != 0) = false := by rw [bne, c425]; rfl
              try simp only [c425, c425n, Bool.not_true, Bool.not_false]
              refine step_no rfl ?_
              simp only [Act.put, nm1, nm2, nm3, i64_w]
              refine step_no rfl ?_
              simp only [Act.put, nm1, nm2, nm3, i64_w]
              refine wpList_step (fun Ko hKo => ?_)
              go_simp
              refine hKo _ _ ?_
              clear hKo Ko
              try simp only [Act.put, nm1, nm2, nm3, i64_w]
              by_cases c426 : (t400 == 0) = true
              ·
               rw [if_pos c426] at H
               have c426n : (t400 != 0) = false := by rw [bne, c426]; rfl
               obtain rfl := Option.some.inj H
               try simp only [c426, c426n, Bool.not_true, Bool.not_false]
               refine wpList_step (fun Ko hKo => ?_)
               go_simp
               refine hKo _ _ ?_
               clear hKo Ko
               try simp only [Act.put, nm1, nm2, nm3, i64_w]
               refine wpList_plain rfl (fun Ko hKo => ?_)
               go_simp
               refine hKo _ _ ?_
               clear hKo Ko
               try simp only [Act.put, nm1, nm2, nm3, i64_w]
               refine wpList_nil ?_
               (try simp only [Exit.then, Exit.inBlock, ↓reduceIte, Nat.reduceEqDiff])
               refine hK411 _ _ ?_
               as_aux_lemma =>
               refine wp_cond_true rfl ?_
               refine wp_seq_k (fun K427 hK427 => ?_)
               refine wp_region_lit ?_
               refine wpList_plain rfl (fun Ko hKo => ?_)
               go_simp
               refine hKo _ _ ?_
               clear hKo Ko
               try simp only [Act.put, nm1, nm2, nm3, i64_w]
               refine wpList_nil ?_
               (try simp only [Exit.then, Exit.inBlock, ↓reduceIte, Nat.reduceEqDiff])
               refine hK427 _ _ ?_
               refine wp_ret ?_
               (try simp only [Exit.then, Exit.inBlock, ↓reduceIte, Nat.reduceEqDiff])
               refine hQf _ _ _ ?_
               exact bodyPost_ret (v := .bool false) (by first | rfl | (simp [results, Try.results3, go_sem]; done) | (simp [results, Try.results3, go_sem]; rfl)) rfl ⟨rfl, ((hm215.out.trans hu403.out).trans hu409.out)⟩
              ·
               rw [if_neg c426] at H
               replace c426 := Bool.eq_false_iff.mpr c426
               have c426n : (t400 != 0) = true := by rw [bne, c426]; rfl
               have c426p : ¬ t400 = 0 := fun e => by simp [e] at c426
               have HL430 := Aside0.mk H
               clear H
               try simp only [c426, c426n, Bool.not_true, Bool.not_false]
               refine wpList_step (fun Ko hKo => ?_)
               go_simp
               refine hKo _ _ ?_
               clear hKo Ko
               try simp only [Act.put, nm1, nm2, nm3, i64_w]
               refine wpList_plain rfl (fun Ko hKo => ?_)
               go_simp
               refine hKo _ _ ?_
               clear hKo Ko
               try simp only [Act.put, nm1, nm2, nm3, i64_w]
               refine wpList_nil ?_
               (try simp only [Exit.then, Exit.inBlock, ↓reduceIte, Nat.reduceEqDiff])
               refine hK411 _ _ ?_
               refine wp_cond_false rfl ?_
               refine wp_skip ?_
               (try simp only [Exit.then, Exit.inBlock, ↓reduceIte, Nat.reduceEqDiff])
               refine hK410 _ _ ?_
               refine wp_seq_k (fun K428 hK428 => ?_)
               refine wp_seq_k (fun K429 hK429 => ?_)
               refine wp_region_lit ?_
               refine wpList_plain rfl (fun Ko hKo => ?_)
               go_simp
               refine hKo _ _ ?_
               clear hKo Ko
               try simp only [Act.put, nm1, nm2, nm3, i64_w]
               refine wpList_plain rfl (fun Ko hKo => ?_)
               go_simp
               refine hKo _ _ ?_
               clear hKo Ko
               try simp only [Act.put, nm1, nm2, nm3, i64_w]
               refine wpList_nil ?_
               (try simp only [Exit.then, Exit.inBlock, ↓reduceIte, Nat.reduceEqDiff])
               refine hK429 _ _ ?_
               refine wp_cond_true rfl ?_
               refine wp_exit ?_
               (try simp only [Exit.then, Exit.inBlock, ↓reduceIte, Nat.reduceEqDiff])
               refine hK132 _ _ ?_
               refine wp_region_lit ?_
               refine wpList_plain rfl (fun Ko hKo => ?_)
               go_simp
               refine hKo _ _ ?_
               clear hKo Ko
               try simp only [Act.put, nm1, nm2, nm3, i64_w]
               refine wpList_plain rfl (fun Ko hKo => ?_)
               go_simp
               refine hKo _ _ ?_
               clear hKo Ko
               try simp only [Act.put, nm1, nm2, nm3, i64_w]
               refine wpList_plain rfl (fun Ko hKo => ?_)
               go_simp
               refine hKo _ _ ?_
               clear hKo Ko
               try simp only [Act.put, nm1, nm2, nm3, i64_w]
               refine wpList_nil ?_
               (try simp only [Exit.then, Exit.inBlock, ↓reduceIte, Nat.reduceEqDiff])
               refine hK126 _ _ ?_
               go_roundg k122
               case measure => exact Nat.lt_succ_self _
               case rel => exact ⟨wrap64 (x110 + 1), t172, t173, (by first | rfl | simp), HL430, ⟨by have := hk123.out; omega⟩, ⟨((hm217.out.trans hu403.out).trans hu409.out)⟩, ⟨(Nat.le_trans ((Nat.le_trans (hm219.out) hu403.out.size)) hu409.out.size)⟩, (h220.up (hu403.out.trans hu409.out)), (h221.up (hu403.out.trans hu409.out)), (h222.up (hu403.out.trans hu409.out)), (h223.up (hu403.out.trans hu409.out)), (h224.up (hu403.out.trans hu409.out))⟩
             ·
              rw [if_neg c425] at H
              replace c425 := Bool.eq_false_iff.mpr c425
              have c425n : (t140 != 0) = true := by rw [bne, c425]; rfl
              have c425p : ¬ t140 = 0 := fun e => by simp [e] at c425
              try simp only [c425, c425n, Bool.not_true, Bool.not_false]
              refine wpList_step (fun Ko hKo => ?_)
              go_simp
              refine hKo _ _ ?_
              clear hKo Ko
              try simp only [Act.put, nm1, nm2, nm3, i64_w]
              refine wpList_step (fun Ko hKo => ?_)
              go_simp
              refine hKo _ _ ?_
              clear hKo Ko
              try simp only [Act.put, nm1, nm2, nm3, i64_w]
              refine wpList_step (fun Ko hKo => ?_)
              go_simp
              refine hKo _ _ ?_
              clear hKo Ko
              try simp only [Act.put, nm1, nm2, nm3, i64_w]
              by_cases c431 : (t400 == 0) = true
              ·
               rw [if_pos c431] at H
               have c431n : (t400 != 0) = false := by rw [bne, c431]; rfl
               try simp only [c431, c431n, Bool.not_true, Bool.not_false]
               by_cases c432 : (t146 == 0) = true
               ·
                rw [if_pos c432] at H
                have c432n : (t146 != 0) = false := by rw [bne, c432]; rfl
                obtain rfl := Option.some.inj H
                try simp only [c432, c432n, Bool.not_true, Bool.not_false]
                refine wpList_step (fun Ko hKo => ?_)
                go_simp
                refine hKo _ _ ?_
                clear hKo Ko
                try simp only [Act.put, nm1, nm2, nm3, i64_w]
                refine wpList_plain rfl (fun Ko hKo => ?_)
                go_simp
                refine hKo _ _ ?_
                clear hKo Ko
                try simp only [Act.put, nm1, nm2, nm3, i64_w]
                refine wpList_nil ?_
                (try simp only [Exit.then, Exit.inBlock, ↓reduceIte, Nat.reduceEqDiff])
                refine hK411 _ _ ?_
                as_aux_lemma =>
                refine wp_cond_true rfl ?_
                refine wp_seq_k (fun K433 hK433 => ?_)
                refine wp_region_lit ?_
                refine wpList_plain rfl (fun Ko hKo => ?_)
                go_simp
                refine hKo _ _ ?_
                clear hKo Ko
                try simp only [Act.put, nm1, nm2, nm3, i64_w]
                refine wpList_nil ?_
                (try simp only [Exit.then, Exit.inBlock, ↓reduceIte, Nat.reduceEqDiff])
                refine hK433 _ _ ?_
                refine wp_ret ?_
                (try simp only [Exit.then, Exit.inBlock, ↓reduceIte, Nat.reduceEqDiff])
                refine hQf _ _ _ ?_
                exact bodyPost_ret (v := .bool false) (by first | rfl | (simp [results, Try.results3, go_sem]; done) | (simp [results, Try.results3, go_sem]; rfl)) rfl ⟨rfl, ((hm215.out.trans hu403.out).trans hu409.out)⟩
               ·
                rw [if_neg c432] at H
                replace c432 := Bool.eq_false_iff.mpr c432
                have c432n : (t146 != 0) = true := by rw [bne, c432]; rfl
                have c432p : ¬ t146 = 0 := fun e => by simp [e] at c432
                try simp only [c432, c432n, Bool.not_true, Bool.not_false]
                refine wpList_step (fun Ko hKo => ?_)
                go_simp
                refine hKo _ _ ?_
                clear hKo Ko
                try simp only [Act.put, nm1, nm2, nm3, i64_w]
                refine wpList_plain rfl (fun Ko hKo => ?_)
                go_simp
                refine hKo _ _ ?_
                clear hKo Ko
                try simp only [Act.put, nm1, nm2, nm3, i64_w]
                refine wpList_nil ?_
                (try simp only [Exit.then, Exit.inBlock, ↓reduceIte, Nat.reduceEqDiff])
                refine hK411 _ _ ?_
                refine wp_cond_false rfl ?_
                refine wp_skip ?_
                (try simp only [Exit.then, Exit.inBlock, ↓reduceIte, Nat.reduceEqDiff])
                refine hK410 _ _ ?_
                refine wp_seq_k (fun K434 hK434 => ?_)
                refine wp_seq_k (fun K435 hK435 => ?_)
                refine wp_region_lit ?_
                refine wpList_plain rfl (fun Ko hKo => ?_)
                go_simp
                refine hKo _ _ ?_
                clear hKo Ko
                try simp only [Act.put, nm1, nm2, nm3, i64_w]
                refine wpList_plain rfl (fun Ko hKo => ?_)
                go_simp
                refine hKo _ _ ?_
                clear hKo Ko
                try simp only [Act.put, nm1, nm2, nm3, i64_w]
                refine wpList_nil ?_
                (try simp only [Exit.then, Exit.inBlock, ↓reduceIte, Nat.reduceEqDiff])
                refine hK435 _ _ ?_
                refine wp_cond_false rfl ?_
                refine wp_skip ?_
                (try simp only [Exit.then, Exit.inBlock, ↓reduceIte, Nat.reduceEqDiff])
                refine hK434 _ _ ?_
                refine wp_seq_k (fun K436 hK436 => ?_)
                refine wp_seq_k (fun K437 hK437 => ?_)
                by_cases c438 : ((t397.length : Int) == 3) = true
                ·
                 rw [if_pos c438] at H
                 have c438n : ((t397.length : Int) != 3) = false := by rw [bne, c438]; rfl
                 replace H := Option.bind_eq_some_iff.mp H
                 obtain ⟨t439, A440, H⟩ := H
                 replace A440 := Aside0.mk A440
                 try dsimp only at H
                 try simp only [c438, c438n, Bool.not_true, Bool.not_false]
                 obtain ⟨ad441, hat, he⟩ := rd_at ((ht397.up hu409.out).rd) A440.out
                 have he442 := Aside0.mk he
                 have hat444 := Aside0.mk hat
                 clear he hat
                 by_cases c445 : (t30 == 0) = true
                 ·
                  rw [if_pos c445] at H
                  have c445n : (t30 != 0) = false := by rw [bne, c445]; rfl
                  exact absurd H (by simp)
                 ·
                  rw [if_neg c445] at H
                  replace c445 := Bool.eq_false_iff.mpr c445
                  have c445n : (t30 != 0) = true := by rw [bne, c445]; rfl
                  have c445p : ¬ t30 = 0 := fun e => by simp [e] at c445
                  replace H := Option.bind_eq_some_iff.mp H
                  obtain ⟨t446, A447, H⟩ := H
                  replace A447 := Aside0.mk A447
                  try dsimp only at H
                  try simp only [c445, c445n, Bool.not_true, Bool.not_false]
                  obtain ⟨ad448, hat, he⟩ := rd_at ((ht397.up hu409.out).rd) A447.out
                  have he449 := Aside0.mk he
                  have hat451 := Aside0.mk hat
                  clear he hat
                  by_cases c452 : ((Int.tmod (wrap64 (t439 * t140)) t30) == (Int.tmod (wrap64 (t446 * t134)) t30)) = true
                  ·
                   rw [if_pos c452] at H
                   have c452n : ((Int.tmod (wrap64 (t439 * t140)) t30) != (Int.tmod (wrap64 (t446 * t134)) t30)) = false := by rw [bne, c452]; rfl
                   replace H := Option.bind_eq_some_iff.mp H
                   obtain ⟨t453, A454, H⟩ := H
                   replace A454 := Aside0.mk A454
                   try dsimp only at H
                   replace H := Option.bind_eq_some_iff.mp H
                   obtain ⟨t459, A460, H⟩ := H
                   replace A460 := Aside0.mk A460
                   try dsimp only at H
                   try simp only [c452, c452n, Bool.not_true, Bool.not_false]
                   obtain ⟨ad455, hat, he⟩ := rd_at ((ht397.up hu409.out).rd) A454.out
                   have he456 := Aside0.mk he
                   have hat458 := Aside0.mk hat
                   clear he hat
                   obtain ⟨ad461, hat, he⟩ := rd_at ((ht397.up hu409.out).rd) A460.out
                   have he462 := Aside0.mk he
                   have hat464 := Aside0.mk hat
                   clear he hat
                   refine' wp_region_up 37 [Slot.det _, Slot.det _, Slot.det _, Slot.det _, Slot.det _, Slot.det (.pointer (some ad441)), Slot.det _, Slot.det _, Slot.det _, Slot.det _, Slot.det _, Slot.det _, Slot.det (.pointer (some ad448)), Slot.det _, Slot.det _, Slot.det _, Slot.det _, Slot.det _, Slot.det _, Slot.det _, Slot.det _, Slot.det _, Slot.det (.pointer (some ad455)), Slot.det _, Slot.det _, Slot.det _, Slot.det _, Slot.det _, Slot.det _, Slot.det (.pointer (some ad461)), Slot.det _, Slot.det _, Slot.det _, Slot.det _, Slot.det _, Slot.det _, Slot.det _] (by kernel_rfl) (by kernel_rfl) ?main
                   case main =>
                    simp only [List.take_succ_cons, List.take_zero]
                    refine wpK_ops rfl (fun w1 hu => ?_) ?_
                    · clear hu
                      go_simp
                      first | done | rfl
                    simp only [Act.put, nm1, nm2, nm3, i64_w]
                    refine wpK_ops rfl (fun w1 hu => ?_) ?_
                    · clear hu
                      go_simp
                      first | done | rfl
                    simp only [Act.put, nm1, nm2, nm3, i64_w]
                    refine wpK_ops rfl (fun w1 hu => ?_) ?_
                    · clear hu
                      go_simp
                      first | done | rfl
                    simp only [Act.put, nm1, nm2, nm3, i64_w]
                    refine wpK_ops rfl (fun w1 hu => ?_) ?_
                    · clear hu
                      go_simp
                      first | done | rfl
                    simp only [Act.put, nm1, nm2, nm3, i64_w]
                    refine wpK_yesU rfl (fun w1 hu => ?_) ?_
                    · clear hu
                      go_simp
                      first | done | rfl
                    simp only [Act.put, nm1, nm2, nm3, i64_w]
                    refine wpK_yesU rfl (fun w1 hu => ?_) ?_
                    · exact quiet_index eI (T := 2) rfl (by kernel_rfl) (by kernel_rfl) rfl rfl rfl hat444.out A440.out
                    simp only [Act.put, nm1, nm2, nm3, i64_w]
                    refine wpK_yesU rfl (fun w1 hu => ?_) ?_
                    · have cl0 := he442.out 0 _ rfl
                      rw [addr_add0] at cl0
                      replace cl0 := (((Up.refl _).drew.trans hu)).kept cl0
                      go_simp
                      first | done | rfl
                    simp only [Act.put, nm1, nm2, nm3, i64_w]
                    refine wpK_yesU rfl (fun w1 hu => ?_) ?_
                    · clear hu
                      go_simp
                      first | done | rfl
                    simp only [Act.put, nm1, nm2, nm3, i64_w]
                    refine wpK_yesU rfl (fun w1 hu => ?_) ?_
                    · clear hu
                      go_simp
                      first | done | rfl
                    simp only [Act.put, nm1, nm2, nm3, i64_w]
                    refine wpK_yesU rfl (fun w1 hu => ?_) ?_
                    · clear hu
                      go_simp
                      first | done | rfl
                    simp only [Act.put, nm1, nm2, nm3, i64_w]
                    refine wpK_yesU rfl (fun w1 hu => ?_) ?_
                    · clear hu
                      go_simp
                      first | done | rfl
                    simp only [Act.put, nm1, nm2, nm3, i64_w]
                    refine wpK_yesU rfl (fun w1 hu => ?_) ?_
                    · clear hu
                      go_simp
                      first | done | rfl
                    simp only [Act.put, nm1, nm2, nm3, i64_w]
                    refine wpK_yesU rfl (fun w1 hu => ?_) ?_
                    · exact quiet_index eI (T := 2) rfl (by kernel_rfl) (by kernel_rfl) rfl rfl rfl hat451.out A447.out
                    simp only [Act.put, nm1, nm2, nm3, i64_w]
                    refine wpK_yesU rfl (fun w1 hu => ?_) ?_
                    · have cl0 := he449.out 0 _ rfl
                      rw [addr_add0] at cl0
                      replace cl0 := (((Up.refl _).drew.trans hu)).kept cl0
                      go_simp
                      first | done | rfl
                    simp only [Act.put, nm1, nm2, nm3, i64_w]
                    refine wpK_yesU rfl (fun w1 hu => ?_) ?_
                    · clear hu
                      go_simp
                      first | done | rfl
                    simp only [Act.put, nm1, nm2, nm3, i64_w]
                    refine wpK_yesU rfl (fun w1 hu => ?_) ?_
                    · clear hu
                      go_simp
                      first | done | rfl
                    simp only [Act.put, nm1, nm2, nm3, i64_w]
                    refine wpK_yesU rfl (fun w1 hu => ?_) ?_
                    · clear hu
                      go_simp
                      first | done | rfl
                    simp only [Act.put, nm1, nm2, nm3, i64_w]
                    refine wpK_yesU rfl (fun w1 hu => ?_) ?_
                    · clear hu
                      go_simp
                      first | done | rfl
                    simp only [Act.put, nm1, nm2, nm3, i64_w]
                    refine wpK_yesU rfl (fun w1 hu => ?_) ?_
                    · clear hu
                      go_simp
                      first | done | rfl
                    simp only [Act.put, nm1, nm2, nm3, i64_w]
                    refine wpK_ops rfl (fun w1 hu => ?_) ?_
                    · clear hu
                      go_simp
                      first | done | rfl
                    simp only [Act.put, nm1, nm2, nm3, i64_w]
                    refine wpK_ops rfl (fun w1 hu => ?_) ?_
                    · clear hu
                      go_simp
                      first | done | rfl
                    simp only [Act.put, nm1, nm2, nm3, i64_w]
                    refine wpK_yesU rfl (fun w1 hu => ?_) ?_
                    · clear hu
                      go_simp
                      first | done | rfl
                    simp only [Act.put, nm1, nm2, nm3, i64_w]
                    refine wpK_yesU rfl (fun w1 hu => ?_) ?_
                    · exact quiet_index eI (T := 2) rfl (by kernel_rfl) (by kernel_rfl) rfl rfl rfl hat458.out A454.out
                    simp only [Act.put, nm1, nm2, nm3, i64_w]
                    refine wpK_yesU rfl (fun w1 hu => ?_) ?_
                    · have cl0 := he456.out 0 _ rfl
                      rw [addr_add0] at cl0
                      replace cl0 := (((Up.refl _).drew.trans hu)).kept cl0
                      go_simp
                      first | done | rfl
                    simp only [Act.put, nm1, nm2, nm3, i64_w]
                    refine wpK_yesU rfl (fun w1 hu => ?_) ?_
                    · clear hu
                      go_simp
                      first | done | rfl
                    simp only [Act.put, nm1, nm2, nm3, i64_w]
                    refine wpK_yesU rfl (fun w1 hu => ?_) ?_
                    · clear hu
                      go_simp
                      first | done | rfl
                    simp only [Act.put, nm1, nm2, nm3, i64_w]
                    refine wpK_yesU rfl (fun w1 hu => ?_) ?_
                    · clear hu
                      go_simp
                      first | done | rfl
                    simp only [Act.put, nm1, nm2, nm3, i64_w]
                    refine wpK_yesU rfl (fun w1 hu => ?_) ?_
                    · clear hu
                      go_simp
                      first | done | rfl
                    simp only [Act.put, nm1, nm2, nm3, i64_w]
                    refine wpK_yesU rfl (fun w1 hu => ?_) ?_
                    · clear hu
                      go_simp
                      first | done | rfl
                    simp only [Act.put, nm1, nm2, nm3, i64_w]
                    refine wpK_yesU rfl (fun w1 hu => ?_) ?_
                    · exact quiet_index eI (T := 2) rfl (by kernel_rfl) (by kernel_rfl) rfl rfl rfl hat464.out A460.out
                    simp only [Act.put, nm1, nm2, nm3, i64_w]
                    refine wpK_yesU rfl (fun w1 hu => ?_) ?_
                    · have cl0 := he462.out 0 _ rfl
                      rw [addr_add0] at cl0
                      replace cl0 := (((Up.refl _).drew.trans hu)).kept cl0
                      go_simp
                      first | done | rfl
                    simp only [Act.put, nm1, nm2, nm3, i64_w]
                    refine wpK_yesU rfl (fun w1 hu => ?_) ?_
                    · clear hu
                      go_simp
                      first | done | rfl
                    simp only [Act.put, nm1, nm2, nm3, i64_w]
                    refine wpK_yesU rfl (fun w1 hu => ?_) ?_
                    · clear hu
                      go_simp
                      first | done | rfl
                    simp only [Act.put, nm1, nm2, nm3, i64_w]
                    refine wpK_yesU rfl (fun w1 hu => ?_) ?_
                    · clear hu
                      go_simp
                      first | done | rfl
                    simp only [Act.put, nm1, nm2, nm3, i64_w]
                    refine wpK_yesU rfl (fun w1 hu => ?_) ?_
                    · clear hu
                      go_simp
                      first | done | rfl
                    simp only [Act.put, nm1, nm2, nm3, i64_w]
                    refine wpK_yesU rfl (fun w1 hu => ?_) ?_
                    · clear hu
                      go_simp
                      first | done | rfl
                    simp only [Act.put, nm1, nm2, nm3, i64_w]
                    refine wpK_ops rfl (fun w1 hu => ?_) ?_
                    · clear hu
                      go_simp
                      first | done | rfl
                    simp only [Act.put, nm1, nm2, nm3, i64_w]
                    refine wpK_nil ?_
                    intro w465 hu hap
                    simp only [List.drop_succ_cons, List.drop_zero]
                    replace hu := (Up.refl _).drew.trans hu
                    clear hap
                    have hu466 := Aside0.mk hu
                    clear hu
                    refine wpList_nil ?_
                    (try simp only [Exit.then, Exit.inBlock, ↓reduceIte, Nat.reduceEqDiff])
                    refine hK437 _ _ ?_
                    as_aux_lemma =>
                    have hm468 := Aside0.mk (Nat.le_trans ((Nat.le_trans ((Nat.le_trans (hm216.out) hu403.out.size)) hu409.out.size)) hu466.out.size)
                    have hm469 := Aside0.mk (Nat.le_trans ((Nat.le_trans ((Nat.le_trans (hm218.out) hu403.out.size)) hu409.out.size)) hu466.out.size)
                    have hm470 := Aside0.mk (Nat.le_trans ((Nat.le_trans ((Nat.le_trans (hm219.out) hu403.out.size)) hu409.out.size)) hu466.out.size)
                    by_cases c467 : ((Int.tmod (wrap64 (t453 * t146)) t30) == (Int.tmod (wrap64 (t459 * t140)) t30)) = true
                    ·
                     rw [if_pos c467] at H
                     have c467n : ((Int.tmod (wrap64 (t453 * t146)) t30) != (Int.tmod (wrap64 (t459 * t140)) t30)) = false := by rw [bne, c467]; rfl
                     replace H := Option.bind_eq_some_iff.mp H
                     obtain ⟨t473, A474, H⟩ := H
                     replace A474 := Aside0.mk A474
                     try dsimp only at H
                     try simp only [c467, c467n, Bool.not_true, Bool.not_false]
                     refine wp_cond_false rfl ?_
                     refine wp_skip ?_
                     (try simp only [Exit.then, Exit.inBlock, ↓reduceIte, Nat.reduceEqDiff])
                     refine hK436 _ _ ?_
                     refine wp_seq_k (fun K471 hK471 => ?_)
                     refine wp_region_lit ?_
                     refine wpList_plain rfl (fun Ko hKo => ?_)
                     go_simp
                     refine hKo _ _ ?_
                     clear hKo Ko
                     try simp only [Act.put, nm1, nm2, nm3, i64_w]
                     refine wpList_plain rfl (fun Ko hKo => ?_)
                     go_simp
                     refine hKo _ _ ?_
                     clear hKo Ko
                     try simp only [Act.put, nm1, nm2, nm3, i64_w]
                     refine wpList_plain rfl (fun Ko hKo => ?_)
                     go_simp
                     refine hKo _ _ ?_
                     clear hKo Ko
                     try simp only [Act.put, nm1, nm2, nm3, i64_w]
                     refine wpList_plain rfl (fun Ko hKo => ?_)
                     go_simp
                     refine hKo _ _ ?_
                     clear hKo Ko
                     try simp only [Act.put, nm1, nm2, nm3, i64_w]
                     refine wpList_plain rfl (fun Ko hKo => ?_)
                     go_simp
                     refine hKo _ _ ?_
                     clear hKo Ko
                     try simp only [Act.put, nm1, nm2, nm3, i64_w]
                     refine wpList_plain rfl (fun Ko hKo => ?_)
                     go_simp
                     refine hKo _ _ ?_
                     clear hKo Ko
                     try simp only [Act.put, nm1, nm2, nm3, i64_w]
                     refine wpList_plain rfl (fun Ko hKo => ?_)
                     go_simp
                     refine hKo _ _ ?_
                     clear hKo Ko
                     try simp only [Act.put, nm1, nm2, nm3, i64_w]
                     refine wpList_plain rfl (fun Ko hKo => ?_)
                     go_simp
                     refine hKo _ _ ?_
                     clear hKo Ko
                     try simp only [Act.put, nm1, nm2, nm3, i64_w]
                     refine wpList_plain rfl (fun Ko hKo => ?_)
                     go_simp
                     refine hKo _ _ ?_
                     clear hKo Ko
                     try simp only [Act.put, nm1, nm2, nm3, i64_w]
                     refine wpList_plain rfl (fun Ko hKo => ?_)
                     go_simp
                     refine hKo _ _ ?_
                     clear hKo Ko
                     try simp only [Act.put, nm1, nm2, nm3, i64_w]
                     refine wpList_nil ?_
                     (try simp only [Exit.then, Exit.inBlock, ↓reduceIte, Nat.reduceEqDiff])
                     refine hK471 _ _ ?_
                     refine wp_seq_k (fun K472 hK472 => ?_)
                     obtain ⟨ad475, hat, he⟩ := rd_at ((ht397.up (hu409.out.trans hu466.out)).rd) A474.out
                     have he476 := Aside0.mk he
                     have hat478 := Aside0.mk hat
                     clear he hat
                     refine' wp_region_up 21 [Slot.det _, Slot.det _, Slot.det _, Slot.det _, Slot.det _, Slot.det _, Slot.det _, Slot.det _, Slot.det _, Slot.det _, Slot.det _, Slot.det _, Slot.det (.pointer (some ad475)), Slot.det _, Slot.det _, Slot.det _, Slot.det _, Slot.det _, Slot.det _, Slot.det _, Slot.det _] (by kernel_rfl) (by kernel_rfl) ?main
                     case main =>
                      simp only [List.take_succ_cons, List.take_zero]
                      refine wpK_ops rfl (fun w1 hu => ?_) ?_
                      · clear hu
                        go_simp
                        first | done | rfl
                      simp only [Act.put, nm1, nm2, nm3, i64_w]
                      refine wpK_ops rfl (fun w1 hu => ?_) ?_
                      · clear hu
                        go_simp
                        first | done | rfl
                      simp only [Act.put, nm1, nm2, nm3, i64_w]
                      refine wpK_ops rfl (fun w1 hu => ?_) ?_
                      · clear hu
                        go_simp
                        first | done | rfl
                      simp only [Act.put, nm1, nm2, nm3, i64_w]
                      refine wpK_ops rfl (fun w1 hu => ?_) ?_
                      · clear hu
                        go_simp
                        first | done | rfl
                      simp only [Act.put, nm1, nm2, nm3, i64_w]
                      refine wpK_ops rfl (fun w1 hu => ?_) ?_
                      · clear hu
                        go_simp
                        first | done | rfl
                      simp only [Act.put, nm1, nm2, nm3, i64_w]
                      refine wpK_ops rfl (fun w1 hu => ?_) ?_
                      · clear hu
                        go_simp
                        first | done | rfl
                      simp only [Act.put, nm1, nm2, nm3, i64_w]
                      refine wpK_ops rfl (fun w1 hu => ?_) ?_
                      · clear hu
                        go_simp
                        first | done | rfl
                      simp only [Act.put, nm1, nm2, nm3, i64_w]
                      refine wpK_ops rfl (fun w1 hu => ?_) ?_
                      · clear hu
                        go_simp
                        first | done | rfl
                      simp only [Act.put, nm1, nm2, nm3, i64_w]
                      refine wpK_ops rfl (fun w1 hu => ?_) ?_
                      · clear hu
                        go_simp
                        first | done | rfl
                      simp only [Act.put, nm1, nm2, nm3, i64_w]
                      refine wpK_ops rfl (fun w1 hu => ?_) ?_
                      · clear hu
                        go_simp
                        first | done | rfl
                      simp only [Act.put, nm1, nm2, nm3, i64_w]
                      refine wpK_ops rfl (fun w1 hu => ?_) ?_
                      · clear hu
                        go_simp
                        first | done | rfl
                      simp only [Act.put, nm1, nm2, nm3, i64_w]
                      refine wpK_ops rfl (fun w1 hu => ?_) ?_
                      · clear hu
                        go_simp
                        first | done | rfl
                      simp only [Act.put, nm1, nm2, nm3, i64_w]
                      refine wpK_ops rfl (fun w1 hu => ?_) ?_
                      · exact quiet_index eI (T := 2) rfl (by kernel_rfl) (by kernel_rfl) rfl rfl rfl hat478.out A474.out
                      simp only [Act.put, nm1, nm2, nm3, i64_w]
                      refine wpK_ops rfl (fun w1 hu => ?_) ?_
                      · have cl0 := he476.out 0 _ rfl
                        rw [addr_add0] at cl0
                        replace cl0 := (((Up.refl _).drew.trans hu)).kept cl0
                        go_simp
                        first | done | rfl
                      simp only [Act.put, nm1, nm2, nm3, i64_w]
                      refine wpK_ops rfl (fun w1 hu => ?_) ?_
                      · clear hu
                        go_simp
                        first | done | rfl
                      simp only [Act.put, nm1, nm2, nm3, i64_w]
                      refine wpK_ops rfl (fun w1 hu => ?_) ?_
                      · clear hu
                        go_simp
                        first | done | rfl
                      simp only [Act.put, nm1, nm2, nm3, i64_w]
                      refine wpK_ops rfl (fun w1 hu => ?_) ?_
                      · clear hu
                        go_simp
                        first | done | rfl
                      simp only [Act.put, nm1, nm2, nm3, i64_w]
                      refine wpK_ops rfl (fun w1 hu => ?_) ?_
                      · clear hu
                        go_simp
                        first | done | rfl
                      simp only [Act.put, nm1, nm2, nm3, i64_w]
                      refine wpK_ops rfl (fun w1 hu => ?_) ?_
                      · clear hu
                        go_simp
                        first | done | rfl
                      simp only [Act.put, nm1, nm2, nm3, i64_w]
                      refine wpK_ops rfl (fun w1 hu => ?_) ?_
                      · clear hu
                        go_simp
                        first | done | rfl
                      simp only [Act.put, nm1, nm2, nm3, i64_w]
                      refine wpK_ops rfl (fun w1 hu => ?_) ?_
                      · clear hu
                        go_simp
                        first | done | rfl
                      simp only [Act.put, nm1, nm2, nm3, i64_w]
                      refine wpK_nil ?_
                      intro w479 hu hap
                      simp only [List.drop_succ_cons, List.drop_zero]
                      replace hu := (Up.refl _).drew.trans hu
                      clear hap
                      have hu480 := Aside0.mk hu
                      clear hu
                      refine wpList_nil ?_
                      (try simp only [Exit.then, Exit.inBlock, ↓reduceIte, Nat.reduceEqDiff])
                      refine hK472 _ _ ?_
                      as_aux_lemma =>
                      have h482 := (h220.up (((hu403.out.trans hu409.out).trans hu466.out).trans hu480.out))
                      have h483 := (h221.up (((hu403.out.trans hu409.out).trans hu466.out).trans hu480.out))
                      have h484 := (h222.up (((hu403.out.trans hu409.out).trans hu466.out).trans hu480.out))
                      have h485 := (h223.up (((hu403.out.trans hu409.out).trans hu466.out).trans hu480.out))
                      have h486 := (h224.up (((hu403.out.trans hu409.out).trans hu466.out).trans hu480.out))
                      have h487 := (h225.up (((hu403.out.trans hu409.out).trans hu466.out).trans hu480.out))
                      have h488 := (hb211.up (((hu403.out.trans hu409.out).trans hu466.out).trans hu480.out))
                      by_cases c481 : ((Int.tmod (wrap64 ((Int.tmod (wrap64 ((wrap64 ((wrap64 (t140 + t146)) - t134)) + t30)) t30) * (Int.tmod (wrap64 ((wrap64 ((wrap64 (t140 + t146)) - t134)) + t30)) t30))) t30) == (Int.tmod (wrap64 ((Int.tmod (wrap64 ((wrap64 (4 * t140)) * t146)) t30) * (wrap64 ((wrap64 (1 - t473)) + t30)))) t30)) = true
                      ·
                       rw [if_pos c481] at H
                       have c481n : ((Int.tmod (wrap64 ((Int.tmod (wrap64 ((wrap64 ((wrap64 (t140 + t146)) - t134)) + t30)) t30) * (Int.tmod (wrap64 ((wrap64 ((wrap64 (t140 + t146)) - t134)) + t30)) t30))) t30) != (Int.tmod (wrap64 ((Int.tmod (wrap64 ((wrap64 (4 * t140)) * t146)) t30) * (wrap64 ((wrap64 (1 - t473)) + t30)))) t30)) = false := by rw [bne, c481]; rfl
                       have HL489 := Aside0.mk H
                       clear H
                       try simp only [c481, c481n, Bool.not_true, Bool.not_false]
                       refine wp_cond_false rfl ?_
                       refine wp_skip ?_
                       (try simp only [Exit.then, Exit.inBlock, ↓reduceIte, Nat.reduceEqDiff])
                       refine hK132 _ _ ?_
                       refine wp_region_lit ?_
                       refine wpList_plain rfl (fun Ko hKo => ?_)
                       go_simp
                       refine hKo _ _ ?_
                       clear hKo Ko
                       try simp only [Act.put, nm1, nm2, nm3, i64_w]
                       refine wpList_plain rfl (fun Ko hKo => ?_)
                       go_simp
                       refine hKo _ _ ?_
                       clear hKo Ko
                       try simp only [Act.put, nm1, nm2, nm3, i64_w]
                       refine wpList_plain rfl (fun Ko hKo => ?_)
                       go_simp
                       refine hKo _ _ ?_
                       clear hKo Ko
                       try simp only [Act.put, nm1, nm2, nm3, i64_w]
                       refine wpList_nil ?_
                       (try simp only [Exit.then, Exit.inBlock, ↓reduceIte, Nat.reduceEqDiff])
                       refine hK126 _ _ ?_
                       go_roundg k122
                       case measure => exact Nat.lt_succ_self _
                       case rel => exact ⟨wrap64 (x110 + 1), t172, t173, (by first | rfl | simp), HL489, ⟨by have := hk123.out; omega⟩, ⟨((((hm217.out.trans hu403.out).trans hu409.out).trans hu466.out).trans hu480.out)⟩, ⟨(Nat.le_trans (hm470.out) hu480.out.size)⟩, h482, h483, h484, h485, h486⟩
                      ·
                       rw [if_neg c481] at H
                       replace c481 := Bool.eq_false_iff.mpr c481
                       have c481n : ((Int.tmod (wrap64 ((Int.tmod (wrap64 ((wrap64 ((wrap64 (t140 + t146)) - t134)) + t30)) t30) * (Int.tmod (wrap64 ((wrap64 ((wrap64 (t140 + t146)) - t134)) + t30)) t30))) t30) != (Int.tmod (wrap64 ((Int.tmod (wrap64 ((wrap64 (4 * t140)) * t146)) t30) * (wrap64 ((wrap64 (1 - t473)) + t30)))) t30)) = true := by rw [bne, c481]; rfl
                       have c481p : ¬ (Int.tmod (wrap64 ((Int.tmod (wrap64 ((wrap64 ((wrap64 (t140 + t146)) - t134)) + t30)) t30) * (Int.tmod (wrap64 ((wrap64 ((wrap64 (t140 + t146)) - t134)) + t30)) t30))) t30) = (Int.tmod (wrap64 ((Int.tmod (wrap64 ((wrap64 (4 * t140)) * t146)) t30) * (wrap64 ((wrap64 (1 - t473)) + t30)))) t30) := fun e => by simp [e] at c481
                       obtain rfl := Option.some.inj H
                       try simp only [c481, c481n, Bool.not_true, Bool.not_false]
                       refine wp_cond_true rfl ?_
                       refine wp_seq_k (fun K490 hK490 => ?_)
                       refine wp_region_lit ?_
                       refine wpList_plain rfl (fun Ko hKo => ?_)
                       go_simp
                       refine hKo _ _ ?_
                       clear hKo Ko
                       try simp only [Act.put, nm1, nm2, nm3, i64_w]
                       refine wpList_nil ?_
                       (try simp only [Exit.then, Exit.inBlock, ↓reduceIte, Nat.reduceEqDiff])
                       refine hK490 _ _ ?_
                       refine wp_ret ?_
                       (try simp only [Exit.then, Exit.inBlock, ↓reduceIte, Nat.reduceEqDiff])
                       refine hQf _ _ _ ?_
                       exact bodyPost_ret (v := .bool false) (by first | rfl | (simp [results, Try.results3, go_sem]; done) | (simp [results, Try.results3, go_sem]; rfl)) rfl ⟨rfl, ((((hm215.out.trans hu403.out).trans hu409.out).trans hu466.out).trans hu480.out)⟩
                    ·
                     rw [if_neg c467] at H
                     replace c467 := Bool.eq_false_iff.mpr c467
                     have c467n : ((Int.tmod (wrap64 (t453 * t146)) t30) != (Int.tmod (wrap64 (t459 * t140)) t30)) = true := by rw [bne, c467]; rfl
                     have c467p : ¬ (Int.tmod (wrap64 (t453 * t146)) t30) = (Int.tmod (wrap64 (t459 * t140)) t30) := fun e => by simp [e] at c467
                     obtain rfl := Option.some.inj H
                     try simp only [c467, c467n, Bool.not_true, Bool.not_false]
                     refine wp_cond_true rfl ?_
                     refine wp_seq_k (fun K491 hK491 => ?_)
                     refine wp_region_lit ?_
                     refine wpList_plain rfl (fun Ko hKo => ?_)
                     go_simp
                     refine hKo _ _ ?_
                     clear hKo Ko
                     try simp only [Act.put, nm1, nm2, nm3, i64_w]
                     refine wpList_nil ?_
                     (try simp only [Exit.then, Exit.inBlock, ↓reduceIte, Nat.reduceEqDiff])
                     refine hK491 _ _ ?_
                     refine wp_ret ?_
                     (try simp only [Exit.then, Exit.inBlock, ↓reduceIte, Nat.reduceEqDiff])
                     refine hQf _ _ _ ?_
                     exact bodyPost_ret (v := .bool false) (by first | rfl | (simp [results, Try.results3, go_sem]; done) | (simp [results, Try.results3, go_sem]; rfl)) rfl ⟨rfl, (((hm215.out.trans hu403.out).trans hu409.out).trans hu466.out)⟩
                  ·
                   rw [if_neg c452] at H
                   replace c452 := Bool.eq_false_iff.mpr c452
                   have c452n : ((Int.tmod (wrap64 (t439 * t140)) t30) != (Int.tmod (wrap64 (t446 * t134)) t30)) = true := by rw [bne, c452]; rfl
                   have c452p : ¬ (Int.tmod (wrap64 (t439 * t140)) t30) = (Int.tmod (wrap64 (t446 * t134)) t30) := fun e => by simp [e] at c452
                   obtain rfl := Option.some.inj H
                   try simp only [c452, c452n, Bool.not_true, Bool.not_false]
                   refine' wp_region_up 37 [Slot.det _, Slot.det _, Slot.det _, Slot.det _, Slot.det _, Slot.det (.pointer (some ad441)), Slot.det _, Slot.det _, Slot.det _, Slot.det _, Slot.det _, Slot.det _, Slot.det (.pointer (some ad448)), Slot.det _, Slot.det _, Slot.det _, Slot.det _, Slot.det _, Slot.det _, Slot.det _, Slot.det _, Slot.det undef, Slot.det undef, Slot.det undef, Slot.det undef, Slot.det undef, Slot.det undef, Slot.det undef, Slot.det undef, Slot.det undef, Slot.det undef, Slot.det undef, Slot.det undef, Slot.det undef, Slot.det undef, Slot.det undef, Slot.det _] (by kernel_rfl) (by kernel_rfl) ?main
                   case main =>
                    simp only [List.take_succ_cons, List.take_zero]
                    refine wpK_ops rfl (fun w1 hu => ?_) ?_
                    · clear hu
                      go_simp
                      first | done | rfl
                    simp only [Act.put, nm1, nm2, nm3, i64_w]
                    refine wpK_ops rfl (fun w1 hu => ?_) ?_
                    · clear hu
                      go_simp
                      first | done | rfl
                    simp only [Act.put, nm1, nm2, nm3, i64_w]
                    refine wpK_ops rfl (fun w1 hu => ?_) ?_
                    · clear hu
                      go_simp
                      first | done | rfl
                    simp only [Act.put, nm1, nm2, nm3, i64_w]
                    refine wpK_ops rfl (fun w1 hu => ?_) ?_
                    · clear hu
                      go_simp
                      first | done | rfl
                    simp only [Act.put, nm1, nm2, nm3, i64_w]
                    refine wpK_yesU rfl (fun w1 hu => ?_) ?_
                    · clear hu
                      go_simp
                      first | done | rfl
                    simp only [Act.put, nm1, nm2, nm3, i64_w]
                    refine wpK_yesU rfl (fun w1 hu => ?_) ?_
                    · exact quiet_index eI (T := 2) rfl (by kernel_rfl) (by kernel_rfl) rfl rfl rfl hat444.out A440.out
                    simp only [Act.put, nm1, nm2, nm3, i64_w]
                    refine wpK_yesU rfl (fun w1 hu => ?_) ?_
                    · have cl0 := he442.out 0 _ rfl
                      rw [addr_add0] at cl0
                      replace cl0 := (((Up.refl _).drew.trans hu)).kept cl0
                      go_simp
                      first | done | rfl
                    simp only [Act.put, nm1, nm2, nm3, i64_w]
                    refine wpK_yesU rfl (fun w1 hu => ?_) ?_
                    · clear hu
                      go_simp
                      first | done | rfl
                    simp only [Act.put, nm1, nm2, nm3, i64_w]
                    refine wpK_yesU rfl (fun w1 hu => ?_) ?_
                    · clear hu
                      go_simp
                      first | done | rfl
                    simp only [Act.put, nm1, nm2, nm3, i64_w]
                    refine wpK_yesU rfl (fun w1 hu => ?_) ?_
                    · clear hu
                      go_simp
                      first | done | rfl
                    simp only [Act.put, nm1, nm2, nm3, i64_w]
                    refine wpK_yesU rfl (fun w1 hu => ?_) ?_
                    · clear hu
                      go_simp
                      first | done | rfl
                    simp only [Act.put, nm1, nm2, nm3, i64_w]
                    refine wpK_yesU rfl (fun w1 hu => ?_) ?_
                    · clear hu
                      go_simp
                      first | done | rfl
                    simp only [Act.put, nm1, nm2, nm3, i64_w]
                    refine wpK_yesU rfl (fun w1 hu => ?_) ?_
                    · exact quiet_index eI (T := 2) rfl (by kernel_rfl) (by kernel_rfl) rfl rfl rfl hat451.out A447.out
                    simp only [Act.put, nm1, nm2, nm3, i64_w]
                    refine wpK_yesU rfl (fun w1 hu => ?_) ?_
                    · have cl0 := he449.out 0 _ rfl
                      rw [addr_add0] at cl0
                      replace cl0 := (((Up.refl _).drew.trans hu)).kept cl0
                      go_simp
                      first | done | rfl
                    simp only [Act.put, nm1, nm2, nm3, i64_w]
                    refine wpK_yesU rfl (fun w1 hu => ?_) ?_
                    · clear hu
                      go_simp
                      first | done | rfl
                    simp only [Act.put, nm1, nm2, nm3, i64_w]
                    refine wpK_yesU rfl (fun w1 hu => ?_) ?_
                    · clear hu
                      go_simp
                      first | done | rfl
                    simp only [Act.put, nm1, nm2, nm3, i64_w]
                    refine wpK_yesU rfl (fun w1 hu => ?_) ?_
                    · clear hu
                      go_simp
                      first | done | rfl
                    simp only [Act.put, nm1, nm2, nm3, i64_w]
                    refine wpK_yesU rfl (fun w1 hu => ?_) ?_
                    · clear hu
                      go_simp
                      first | done | rfl
                    simp only [Act.put, nm1, nm2, nm3, i64_w]
                    refine wpK_yesU rfl (fun w1 hu => ?_) ?_
                    · clear hu
                      go_simp
                      first | done | rfl
                    simp only [Act.put, nm1, nm2, nm3, i64_w]
                    refine wpK_ops rfl (fun w1 hu => ?_) ?_
                    · clear hu
                      go_simp
                      first | done | rfl
                    simp only [Act.put, nm1, nm2, nm3, i64_w]
                    refine wpK_ops rfl (fun w1 hu => ?_) ?_
                    · clear hu
                      go_simp
                      first | done | rfl
                    simp only [Act.put, nm1, nm2, nm3, i64_w]
                    refine wpK_no rfl ?_
                    simp only [Act.put, nm1, nm2, nm3, i64_w]
                    refine wpK_no rfl ?_
                    simp only [Act.put, nm1, nm2, nm3, i64_w]
                    refine wpK_no rfl ?_
                    simp only [Act.put, nm1, nm2, nm3, i64_w]
                    refine wpK_no rfl ?_
                    simp only [Act.put, nm1, nm2, nm3, i64_w]
                    refine wpK_no rfl ?_
                    simp only [Act.put, nm1, nm2, nm3, i64_w]
                    refine wpK_no rfl ?_
                    simp only [Act.put, nm1, nm2, nm3, i64_w]
                    refine wpK_no rfl ?_
                    simp only [Act.put, nm1, nm2, nm3, i64_w]
                    refine wpK_no rfl ?_
                    simp only [Act.put, nm1, nm2, nm3, i64_w]
                    refine wpK_no rfl ?_
                    simp only [Act.put, nm1, nm2, nm3, i64_w]
                    refine wpK_no rfl ?_
                    simp only [Act.put, nm1, nm2, nm3, i64_w]
                    refine wpK_no rfl ?_
                    simp only [Act.put, nm1, nm2, nm3, i64_w]
                    refine wpK_no rfl ?_
                    simp only [Act.put, nm1, nm2, nm3, i64_w]
                    refine wpK_no rfl ?_
                    simp only [Act.put, nm1, nm2, nm3, i64_w]
                    refine wpK_no rfl ?_
                    simp only [Act.put, nm1, nm2, nm3, i64_w]
                    refine wpK_no rfl ?_
                    simp only [Act.put, nm1, nm2, nm3, i64_w]
                    refine wpK_ops rfl (fun w1 hu => ?_) ?_
                    · clear hu
                      go_simp
                      first | done | rfl
                    simp only [Act.put, nm1, nm2, nm3, i64_w]
                    refine wpK_nil ?_
                    intro w492 hu hap
                    simp only [List.drop_succ_cons, List.drop_zero]
                    replace hu := (Up.refl _).drew.trans hu
                    clear hap
                    have hu493 := Aside0.mk hu
                    clear hu
                    refine wpList_nil ?_
                    (try simp only [Exit.then, Exit.inBlock, ↓reduceIte, Nat.reduceEqDiff])
                    refine hK437 _ _ ?_
                    as_aux_lemma =>
                    refine wp_cond_true rfl ?_
                    refine wp_seq_k (fun K494 hK494 => ?_)
                    refine wp_region_lit ?_
                    refine wpList_plain rfl (fun Ko hKo => ?_)
                    go_simp
                    refine hKo _ _ ?_
                    clear hKo Ko
                    try simp only [Act.put, nm1, nm2, nm3, i64_w]
                    refine wpList_nil ?_
                    (try simp only [Exit.then, Exit.inBlock, ↓reduceIte, Nat.reduceEqDiff])
                    refine hK494 _ _ ?_
                    refine wp_ret ?_
                    (try simp only [Exit.then, Exit.inBlock, ↓reduceIte, Nat.reduceEqDiff])
                    refine hQf _ _ _ ?_
                    exact bodyPost_ret (v := .bool false) (by first | rfl | (simp [results, Try.results3, go_sem]; done) | (simp [results, Try.results3, go_sem]; rfl)) rfl ⟨rfl, (((hm215.out.trans hu403.out).trans hu409.out).trans hu493.out)⟩
                ·
                 rw [if_neg c438] at H
                 replace c438 := Bool.eq_false_iff.mpr c438
                 have c438n : ((t397.length : Int) != 3) = true := by rw [bne, c438]; rfl
                 have c438p : ¬ (t397.length : Int) = 3 := fun e => by simp [e] at c438
                 obtain rfl := Option.some.inj H
                 try simp only [c438, c438n, Bool.not_true, Bool.not_false]
                 refine' wp_region_up 37 [Slot.det _, Slot.det _, Slot.det _, Slot.det _, Slot.det undef, Slot.det undef, Slot.det undef, Slot.det undef, Slot.det undef, Slot.det undef, Slot.det undef, Slot.det undef, Slot.det undef, Slot.det undef, Slot.det undef, Slot.det undef, Slot.det undef, Slot.det undef, Slot.det undef, Slot.det _, Slot.det _, Slot.det undef, Slot.det undef, Slot.det undef, Slot.det undef, Slot.det undef, Slot.det undef, Slot.det undef, Slot.det undef, Slot.det undef, Slot.det undef, Slot.det undef, Slot.det undef, Slot.det undef, Slot.det undef, Slot.det undef, Slot.det _] (by kernel_rfl) (by kernel_rfl) ?main
                 case main =>
                  simp only [List.take_succ_cons, List.take_zero]
                  refine wpK_ops rfl (fun w1 hu => ?_) ?_
                  · clear hu
                    go_simp
                    first | done | rfl
                  simp only [Act.put, nm1, nm2, nm3, i64_w]
                  refine wpK_ops rfl (fun w1 hu => ?_) ?_
                  · clear hu
                    go_simp
                    first | done | rfl
                  simp only [Act.put, nm1, nm2, nm3, i64_w]
                  refine wpK_ops rfl (fun w1 hu => ?_) ?_
                  · clear hu
                    go_simp
                    first | done | rfl
                  simp only [Act.put, nm1, nm2, nm3, i64_w]
                  refine wpK_ops rfl (fun w1 hu => ?_) ?_
                  · clear hu
                    go_simp
                    first | done | rfl
                  simp only [Act.put, nm1, nm2, nm3, i64_w]
                  refine wpK_no rfl ?_
                  simp only [Act.put, nm1, nm2, nm3, i64_w]
                  refine wpK_no rfl ?_
                  simp only [Act.put, nm1, nm2, nm3, i64_w]
                  refine wpK_no rfl ?_
                  simp only [Act.put, nm1, nm2, nm3, i64_w]
                  refine wpK_no rfl ?_
                  simp only [Act.put, nm1, nm2, nm3, i64_w]
                  refine wpK_no rfl ?_
                  simp only [Act.put, nm1, nm2, nm3, i64_w]
                  refine wpK_no rfl ?_
                  simp only [Act.put, nm1, nm2, nm3, i64_w]
                  refine wpK_no rfl ?_
                  simp only [Act.put, nm1, nm2, nm3, i64_w]
                  refine wpK_no rfl ?_
                  simp only [Act.put, nm1, nm2, nm3, i64_w]
                  refine wpK_no rfl ?_
                  simp only [Act.put, nm1, nm2, nm3, i64_w]
                  refine wpK_no rfl ?_
                  simp only [Act.put, nm1, nm2, nm3, i64_w]
                  refine wpK_no rfl ?_
                  simp only [Act.put, nm1, nm2, nm3, i64_w]
                  refine wpK_no rfl ?_
                  simp only [Act.put, nm1, nm2, nm3, i64_w]
                  refine wpK_no rfl ?_
                  simp only [Act.put, nm1, nm2, nm3, i64_w]
                  refine wpK_no rfl ?_
                  simp only [Act.put, nm1, nm2, nm3, i64_w]
                  refine wpK_no rfl ?_
                  simp only [Act.put, nm1, nm2, nm3, i64_w]
                  refine wpK_ops rfl (fun w1 hu => ?_) ?_
                  · clear hu
                    go_simp
                    first | done | rfl
                  simp only [Act.put, nm1, nm2, nm3, i64_w]
                  refine wpK_ops rfl (fun w1 hu => ?_) ?_
                  · clear hu
                    go_simp
                    first | done | rfl
                  simp only [Act.put, nm1, nm2, nm3, i64_w]
                  refine wpK_no rfl ?_
                  simp only [Act.put, nm1, nm2, nm3, i64_w]
                  refine wpK_no rfl ?_
                  simp only [Act.put, nm1, nm2, nm3, i64_w]
                  refine wpK_no rfl ?_
                  simp only [Act.put, nm1, nm2, nm3, i64_w]
                  refine wpK_no rfl ?_
                  simp only [Act.put, nm1, nm2, nm3, i64_w]
                  refine wpK_no rfl ?_
                  simp only [Act.put, nm1, nm2, nm3, i64_w]
                  refine wpK_no rfl ?_
                  simp only [Act.put, nm1, nm2, nm3, i64_w]
                  refine wpK_no rfl ?_
                  simp only [Act.put, nm1, nm2, nm3, i64_w]
                  refine wpK_no rfl ?_
                  simp only [Act.put, nm1, nm2, nm3, i64_w]
                  refine wpK_no rfl ?_
                  simp only [Act.put, nm1, nm2, nm3, i64_w]
                  refine wpK_no rfl ?_
                  simp only [Act.put, nm1, nm2, nm3, i64_w]
                  refine wpK_no rfl ?_
                  simp only [Act.put, nm1, nm2, nm3, i64_w]
                  refine wpK_no rfl ?_
                  simp only [Act.put, nm1, nm2, nm3, i64_w]
                  refine wpK_no rfl ?_
                  simp only [Act.put, nm1, nm2, nm3, i64_w]
                  refine wpK_no rfl ?_
                  simp only [Act.put, nm1, nm2, nm3, i64_w]
                  refine wpK_no rfl ?_
                  simp only [Act.put, nm1, nm2, nm3, i64_w]
                  refine wpK_ops rfl (fun w1 hu => ?_) ?_
                  · clear hu
                    go_simp
                    first | done | rfl
                  simp only [Act.put, nm1, nm2, nm3, i64_w]
                  refine wpK_nil ?_
                  intro w495 hu hap
                  simp only [List.drop_succ_cons, List.drop_zero]
                  replace hu := (Up.refl _).drew.trans hu
                  clear hap
                  have hu496 := Aside0.mk hu
                  clear hu
                  refine wpList_nil ?_
                  (try simp only [Exit.then, Exit.inBlock, ↓reduceIte, Nat.reduceEqDiff])
                  refine hK437 _ _ ?_
                  as_aux_lemma =>
                  refine wp_cond_true rfl ?_
                  refine wp_seq_k (fun K497 hK497 => ?_)
                  refine wp_region_lit ?_
                  refine wpList_plain rfl (fun Ko hKo => ?_)
                  go_simp
                  refine hKo _ _ ?_
                  clear hKo Ko
                  try simp only [Act.put, nm1, nm2, nm3, i64_w]
                  refine wpList_nil ?_
                  (try simp only [Exit.then, Exit.inBlock, ↓reduceIte, Nat.reduceEqDiff])
                  refine hK497 _ _ ?_
                  refine wp_ret ?_
                  (try simp only [Exit.then, Exit.inBlock, ↓reduceIte, Nat.reduceEqDiff])
                  refine hQf _ _ _ ?_
                  exact bodyPost_ret (v := .bool false) (by first | rfl | (simp [results, Try.results3, go_sem]; done) | (simp [results, Try.results3, go_sem]; rfl)) rfl ⟨rfl, (((hm215.out.trans hu403.out).trans hu409.out).trans hu496.out)⟩
              ·
               rw [if_neg c431] at H
               replace c431 := Bool.eq_false_iff.mpr c431
               have c431n : (t400 != 0) = true := by rw [bne, c431]; rfl
               have c431p : ¬ t400 = 0 := fun e => by simp [e] at c431
               try simp only [c431, c431n, Bool.not_true, Bool.not_false]
               by_cases c498 : (t146 == 0) = true
               ·
                rw [if_pos c498] at H
                have c498n : (t146 != 0) = false := by rw [bne, c498]; rfl
                have HL501 := Aside0.mk H
                clear H
                try simp only [c498, c498n, Bool.not_true, Bool.not_false]
                refine wpList_step (fun Ko hKo => ?_)
                go_simp
                refine hKo _ _ ?_
                clear hKo Ko
                try simp only [Act.put, nm1, nm2, nm3, i64_w]
                refine wpList_plain rfl (fun Ko hKo => ?_)
                go_simp
                refine hKo _ _ ?_
                clear hKo Ko
                try simp only [Act.put, nm1, nm2, nm3, i64_w]
                refine wpList_nil ?_
                (try simp only [Exit.then, Exit.inBlock, ↓reduceIte, Nat.reduceEqDiff])
                refine hK411 _ _ ?_
                refine wp_cond_false rfl ?_
                refine wp_skip ?_
                (try simp only [Exit.then, Exit.inBlock, ↓reduceIte, Nat.reduceEqDiff])
                refine hK410 _ _ ?_
                refine wp_seq_k (fun K499 hK499 => ?_)
                refine wp_seq_k (fun K500 hK500 => ?_)
                refine wp_region_lit ?_
                refine wpList_plain rfl (fun Ko hKo => ?_)
                go_simp
                refine hKo _ _ ?_
                clear hKo Ko
                try simp only [Act.put, nm1, nm2, nm3, i64_w]
                refine wpList_plain rfl (fun Ko hKo => ?_)
                go_simp
                refine hKo _ _ ?_
                clear hKo Ko
                try simp only [Act.put, nm1, nm2, nm3, i64_w]
                refine wpList_nil ?_
                (try simp only [Exit.then, Exit.inBlock, ↓reduceIte, Nat.reduceEqDiff])
                refine hK500 _ _ ?_
                refine wp_cond_true rfl ?_
                refine wp_exit ?_
                (try simp only [Exit.then, Exit.inBlock, ↓reduceIte, Nat.reduceEqDiff])
                refine hK132 _ _ ?_
                refine wp_region_lit ?_
                refine wpList_plain rfl (fun Ko hKo => ?_)
                go_simp
                refine hKo _ _ ?_
                clear hKo Ko
                try simp only [Act.put, nm1, nm2, nm3, i64_w]
                refine wpList_plain rfl (fun Ko hKo => ?_)
                go_simp
                refine hKo _ _ ?_
                clear hKo Ko
                try simp only [Act.put, nm1, nm2, nm3, i64_w]
                refine wpList_plain rfl (fun Ko hKo => ?_)
                go_simp
                refine hKo _ _ ?_
                clear hKo Ko
                try simp only [Act.put, nm1, nm2, nm3, i64_w]
                refine wpList_nil ?_
                (try simp only [Exit.then, Exit.inBlock, ↓reduceIte, Nat.reduceEqDiff])
                refine hK126 _ _ ?_
                go_roundg k122
                case measure => exact Nat.lt_succ_self _
                case rel => exact ⟨wrap64 (x110 + 1), t172, t173, (by first | rfl | simp), HL501, ⟨by have := hk123.out; omega⟩, ⟨((hm217.out.trans hu403.out).trans hu409.out)⟩, ⟨(Nat.le_trans ((Nat.le_trans (hm219.out) hu403.out.size)) hu409.out.size)⟩, (h220.up (hu403.out.trans hu409.out)), (h221.up (hu403.out.trans hu409.out)), (h222.up (hu403.out.trans hu409.out)), (h223.up (hu403.out.trans hu409.out)), (h224.up (hu403.out.trans hu409.out))⟩
               ·
                rw [if_neg c498] at H
                replace c498 := Bool.eq_false_iff.mpr c498
                have c498n : (t146 != 0) = true := by rw [bne, c498]; rfl
                have c498p : ¬ t146 = 0 := fun e => by simp [e] at c498
                obtain rfl := Option.some.inj H
                try simp only [c498, c498n, Bool.not_true, Bool.not_false]
                refine wpList_step (fun Ko hKo => ?_)
                go_simp
                refine hKo _ _ ?_
                clear hKo Ko
                try simp only [Act.put, nm1, nm2, nm3, i64_w]
                refine wpList_plain rfl (fun Ko hKo => ?_)
                go_simp
                refine hKo _ _ ?_
                clear hKo Ko
                try simp only [Act.put, nm1, nm2, nm3, i64_w]
                refine wpList_nil ?_
                (try simp only [Exit.then, Exit.inBlock, ↓reduceIte, Nat.reduceEqDiff])
                refine hK411 _ _ ?_
                refine wp_cond_true rfl ?_
                refine wp_seq_k (fun K502 hK502 => ?_)
                refine wp_region_lit ?_
                refine wpList_plain rfl (fun Ko hKo => ?_)
                go_simp
                refine hKo _ _ ?_
                clear hKo Ko
                try simp only [Act.put, nm1, nm2, nm3, i64_w]
                refine wpList_nil ?_
                (try simp only [Exit.then, Exit.inBlock, ↓reduceIte, Nat.reduceEqDiff])
                refine hK502 _ _ ?_
                refine wp_ret ?_
                (try simp only [Exit.then, Exit.inBlock, ↓reduceIte, Nat.reduceEqDiff])
                refine hQf _ _ _ ?_
                exact bodyPost_ret (v := .bool false) (by first | rfl | (simp [results, Try.results3, go_sem]; done) | (simp [results, Try.results3, go_sem]; rfl)) rfl ⟨rfl, ((hm215.out.trans hu403.out).trans hu409.out)⟩
          ·
           rw [if_neg c412] at H
           replace c412 := Bool.eq_false_iff.mpr c412
           have c412n : (t406 != 0) = true := by rw [bne, c412]; rfl
           have c412p : ¬ t406 = 0 := fun e => by simp [e] at c412
           obtain rfl := Option.some.inj H
           try simp only [c412, c412n, Bool.not_true, Bool.not_false]
           refine step_no rfl ?_
           simp only [Act.put, nm1, nm2, nm3, i64_w]
           refine step_no rfl ?_
           simp only [Act.put, nm1, nm2, nm3, i64_w]
           refine step_no rfl ?_
           simp only [Act.put, nm1, nm2, nm3, i64_w]
           refine step_no rfl ?_
           simp only [Act.put, nm1, nm2, nm3, i64_w]
           refine step_no rfl ?_
           simp only [Act.put, nm1, nm2, nm3, i64_w]
           refine step_no rfl ?_
           simp only [Act.put, nm1, nm2, nm3, i64_w]
           refine step_no rfl ?_
           simp only [Act.put, nm1, nm2, nm3, i64_w]
           refine step_no rfl ?_
           simp only [Act.put, nm1, nm2, nm3, i64_w]
           refine step_no rfl ?_
           simp only [Act.put, nm1, nm2, nm3, i64_w]
           refine step_no rfl ?_
           simp only [Act.put, nm1, nm2, nm3, i64_w]
           refine step_no rfl ?_
           simp only [Act.put, nm1, nm2, nm3, i64_w]
           refine step_no rfl ?_
           simp only [Act.put, nm1, nm2, nm3, i64_w]
           refine step_no rfl ?_
           simp only [Act.put, nm1, nm2, nm3, i64_w]
           refine step_no rfl ?_
           simp only [Act.put, nm1, nm2, nm3, i64_w]
           refine step_no rfl ?_
           simp only [Act.put, nm1, nm2, nm3, i64_w]
           refine step_no rfl ?_
           simp only [Act.put, nm1, nm2, nm3, i64_w]
           refine step_no rfl ?_
           simp only [Act.put, nm1, nm2, nm3, i64_w]
           refine wpList_plain rfl (fun Ko hKo => ?_)
           go_simp
           refine hKo _ _ ?_
           clear hKo Ko
           try simp only [Act.put, nm1, nm2, nm3, i64_w]
           refine wpList_nil ?_
           (try simp only [Exit.then, Exit.inBlock, ↓reduceIte, Nat.reduceEqDiff])
           refine hK411 _ _ ?_
           as_aux_lemma =>
           refine wp_cond_true rfl ?_
           refine wp_seq_k (fun K503 hK503 => ?_)
           refine wp_region_lit ?_
           refine wpList_plain rfl (fun Ko hKo => ?_)
           go_simp
           refine hKo _ _ ?_
           clear hKo Ko
           try simp only [Act.put, nm1, nm2, nm3, i64_w]
           refine wpList_nil ?_
           (try simp only [Exit.then, Exit.inBlock, ↓reduceIte, Nat.reduceEqDiff])
           refine hK503 _ _ ?_
           refine wp_ret ?_
           (try simp only [Exit.then, Exit.inBlock, ↓reduceIte, Nat.reduceEqDiff])
           refine hQf _ _ _ ?_
           exact bodyPost_ret (v := .bool false) (by first | rfl | (simp [results, Try.results3, go_sem]; done) | (simp [results, Try.results3, go_sem]; rfl)) rfl ⟨rfl, ((hm215.out.trans hu403.out).trans hu409.out)⟩
         ·
          rw [if_neg c393] at H
          replace c393 := Bool.eq_false_iff.mpr c393
          have c393n : (t202 != 5) = true := by rw [bne, c393]; rfl
          have c393p : ¬ t202 = 5 := fun e => by simp [e] at c393
          obtain rfl := Option.some.inj H
          try simp only [c393, c393n, Bool.not_true, Bool.not_false]
          refine wp_cond_true rfl ?_
          refine wp_seq_k (fun K504 hK504 => ?_)
          refine wp_region_lit ?_
          refine wpList_plain rfl (fun Ko hKo => ?_)
          go_simp
          refine hKo _ _ ?_
          clear hKo Ko
          try simp only [Act.put, nm1, nm2, nm3, i64_w]
          refine wpList_nil ?_
          (try simp only [Exit.then, Exit.inBlock, ↓reduceIte, Nat.reduceEqDiff])
          refine hK504 _ _ ?_
          refine wp_ret ?_
          (try simp only [Exit.then, Exit.inBlock, ↓reduceIte, Nat.reduceEqDiff])
          refine hQf _ _ _ ?_
          exact bodyPost_ret (v := .bool false) (by first | rfl | (simp [results, Try.results3, go_sem]; done) | (simp [results, Try.results3, go_sem]; rfl)) rfl ⟨rfl, hm215.out⟩
       ·
        rw [if_neg c214] at H
        replace c214 := Bool.eq_false_iff.mpr c214
        have c214n : (t185 != 0) = true := by rw [bne, c214]; rfl
        have c214p : ¬ t185 = 0 := fun e => by simp [e] at c214
        obtain rfl := Option.some.inj H
        try simp only [c214, c214n, Bool.not_true, Bool.not_false]
        refine step_no rfl ?_
        simp only [Act.put, nm1, nm2, nm3, i64_w]
        refine step_no rfl ?_
        simp only [Act.put, nm1, nm2, nm3, i64_w]
        refine step_no rfl ?_
        simp only [Act.put, nm1, nm2, nm3, i64_w]
        refine step_no rfl ?_
        simp only [Act.put, nm1, nm2, nm3, i64_w]
        refine step_no rfl ?_
        simp only [Act.put, nm1, nm2, nm3, i64_w]
        refine step_no rfl ?_
        simp only [Act.put, nm1, nm2, nm3, i64_w]
        refine wpList_plain rfl (fun Ko hKo => ?_)
        go_simp
        refine hKo _ _ ?_
        clear hKo Ko
        try simp only [Act.put, nm1, nm2, nm3, i64_w]
        refine wpList_nil ?_
        (try simp only [Exit.then, Exit.inBlock, ↓reduceIte, Nat.reduceEqDiff])
        refine hK213 _ _ ?_
        refine wp_cond_true rfl ?_
        refine wp_seq_k (fun K505 hK505 => ?_)
        refine wp_region_lit ?_
        refine wpList_plain rfl (fun Ko hKo => ?_)
        go_simp
        refine hKo _ _ ?_
        clear hKo Ko
        try simp only [Act.put, nm1, nm2, nm3, i64_w]
        refine wpList_nil ?_
        (try simp only [Exit.then, Exit.inBlock, ↓reduceIte, Nat.reduceEqDiff])
        refine hK505 _ _ ?_
        refine wp_ret ?_
        (try simp only [Exit.then, Exit.inBlock, ↓reduceIte, Nat.reduceEqDiff])
        refine hQf _ _ _ ?_
        exact bodyPost_ret (v := .bool false) (by first | rfl | (simp [results, Try.results3, go_sem]; done) | (simp [results, Try.results3, go_sem]; rfl)) rfl ⟨rfl, hm215.out⟩
      ·
       rw [if_neg c158] at H
       replace c158 := Bool.eq_false_iff.mpr c158
       have c158n : (t147 != 0) = true := by rw [bne, c158]; rfl
       have c158p : ¬ t147 = 0 := fun e => by simp [e] at c158
       obtain rfl := Option.some.inj H
       try simp only [c158, c158n, Bool.not_true, Bool.not_false]
       refine wp_cond_true rfl ?_
       refine wp_seq_k (fun K506 hK506 => ?_)
       refine wp_region_lit ?_
       refine wpList_plain rfl (fun Ko hKo => ?_)
       go_simp
       refine hKo _ _ ?_
       clear hKo Ko
       try simp only [Act.put, nm1, nm2, nm3, i64_w]
       refine wpList_nil ?_
       (try simp only [Exit.then, Exit.inBlock, ↓reduceIte, Nat.reduceEqDiff])
       refine hK506 _ _ ?_
       refine wp_ret ?_
       (try simp only [Exit.then, Exit.inBlock, ↓reduceIte, Nat.reduceEqDiff])
       refine hQf _ _ _ ?_
       exact bodyPost_ret (v := .bool false) (by first | rfl | (simp [results, Try.results3, go_sem]; done) | (simp [results, Try.results3, go_sem]; rfl)) rfl ⟨rfl, ((((hu7.out.trans hu114.out).trans hu138.out).trans hu144.out).trans hu150.out)⟩
     ·
      rw [if_neg c157] at H
      replace c157 := Bool.eq_false_iff.mpr c157
      have c157n : (t141 != 0) = true := by rw [bne, c157]; rfl
      have c157p : ¬ t141 = 0 := fun e => by simp [e] at c157
      obtain rfl := Option.some.inj H
      try simp only [c157, c157n, Bool.not_true, Bool.not_false]
      refine step_no rfl ?_
      simp only [Act.put, nm1, nm2, nm3, i64_w]
      refine step_no rfl ?_
      simp only [Act.put, nm1, nm2, nm3, i64_w]
      refine wpList_plain rfl (fun Ko hKo => ?_)
      go_simp
      refine hKo _ _ ?_
      clear hKo Ko
      try simp only [Act.put, nm1, nm2, nm3, i64_w]
      refine wpList_nil ?_
      (try simp only [Exit.then, Exit.inBlock, ↓reduceIte, Nat.reduceEqDiff])
      refine hK152 _ _ ?_
      as_aux_lemma =>
      refine wp_cond_true rfl ?_
      refine wp_seq_k (fun K507 hK507 => ?_)
      refine wp_region_lit ?_
      refine wpList_plain rfl (fun Ko hKo => ?_)
      go_simp
      refine hKo _ _ ?_
      clear hKo Ko
      try simp only [Act.put, nm1, nm2, nm3, i64_w]
      refine wpList_nil ?_
      (try simp only [Exit.then, Exit.inBlock, ↓reduceIte, Nat.reduceEqDiff])
      refine hK507 _ _ ?_
      refine wp_ret ?_
      (try simp only [Exit.then, Exit.inBlock, ↓reduceIte, Nat.reduceEqDiff])
      refine hQf _ _ _ ?_
      exact bodyPost_ret (v := .bool false) (by first | rfl | (simp [results, Try.results3, go_sem]; done) | (simp [results, Try.results3, go_sem]; rfl)) rfl ⟨rfl, ((((hu7.out.trans hu114.out).trans hu138.out).trans hu144.out).trans hu150.out)⟩
    ·
     rw [if_neg c153] at H
     replace c153 := Bool.eq_false_iff.mpr c153
     have c153n : (t135 != 0) = true := by rw [bne, c153]; rfl
     have c153p : ¬ t135 = 0 := fun e => by simp [e] at c153
     obtain rfl := Option.some.inj H
     try simp only [c153, c153n, Bool.not_true, Bool.not_false]
     refine step_no rfl ?_
     simp only [Act.put, nm1, nm2, nm3, i64_w]
     refine step_no rfl ?_
     simp only [Act.put, nm1, nm2, nm3, i64_w]
     refine wpList_plain rfl (fun Ko hKo => ?_)
     go_simp
     refine hKo _ _ ?_
     clear hKo Ko
     try simp only [Act.put, nm1, nm2, nm3, i64_w]
     refine wpList_plain rfl (fun Ko hKo => ?_)
     go_simp
     refine hKo _ _ ?_
     clear hKo Ko
     try simp only [Act.put, nm1, nm2, nm3, i64_w]
     refine step_no rfl ?_
     simp only [Act.put, nm1, nm2, nm3, i64_w]
     refine step_no rfl ?_
     simp only [Act.put, nm1, nm2, nm3, i64_w]
     refine wpList_plain rfl (fun Ko hKo => ?_)
     go_simp
     refine hKo _ _ ?_
     clear hKo Ko
     try simp only [Act.put, nm1, nm2, nm3, i64_w]
     refine wpList_nil ?_
     (try simp only [Exit.then, Exit.inBlock, ↓reduceIte, Nat.reduceEqDiff])
     refine hK152 _ _ ?_
     refine wp_cond_true rfl ?_
     refine wp_seq_k (fun K508 hK508 => ?_)
     refine wp_region_lit ?_
     refine wpList_plain rfl (fun Ko hKo => ?_)
     go_simp
     refine hKo _ _ ?_
     clear hKo Ko
     try simp only [Act.put, nm1, nm2, nm3, i64_w]
     refine wpList_nil ?_
     (try simp only [Exit.then, Exit.inBlock, ↓reduceIte, Nat.reduceEqDiff])
     refine hK508 _ _ ?_
     refine wp_ret ?_
     (try simp only [Exit.then, Exit.inBlock, ↓reduceIte, Nat.reduceEqDiff])
     refine hQf _ _ _ ?_
     exact bodyPost_ret (v := .bool false) (by first | rfl | (simp [results, Try.results3, go_sem]; done) | (simp [results, Try.results3, go_sem]; rfl)) rfl ⟨rfl, ((((hu7.out.trans hu114.out).trans hu138.out).trans hu144.out).trans hu150.out)⟩
   ·
    rw [if_neg c129] at H
    replace c129 := Bool.eq_false_iff.mpr c129
    obtain rfl := Option.some.inj H
    try simp only [c129, Bool.not_true, Bool.not_false]
    refine wp_cond_false rfl ?_
    refine wp_exit ?_
    (try simp only [Exit.then, Exit.inBlock, ↓reduceIte, Nat.reduceEqDiff])
    refine hK108 _ _ ?_
    refine wp_seq_k (fun K509 hK509 => ?_)
    refine wp_region_lit ?_
    refine wpList_plain rfl (fun Ko hKo => ?_)
    go_simp
    refine hKo _ _ ?_
    clear hKo Ko
    try simp only [Act.put, nm1, nm2, nm3, i64_w]
    refine wpList_nil ?_
    (try simp only [Exit.then, Exit.inBlock, ↓reduceIte, Nat.reduceEqDiff])
    refine hK509 _ _ ?_
    refine wp_ret ?_
    (try simp only [Exit.then, Exit.inBlock, ↓reduceIte, Nat.reduceEqDiff])
    refine hQf _ _ _ ?_
    exact bodyPost_ret (v := .bool true) (by first | rfl | (simp [results, Try.results3, go_sem]; done) | (simp [results, Try.results3, go_sem]; rfl)) rfl ⟨rfl, (hu7.out.trans hu114.out)⟩

end Go.Proofs.Ytccbmdpikalpfaa
