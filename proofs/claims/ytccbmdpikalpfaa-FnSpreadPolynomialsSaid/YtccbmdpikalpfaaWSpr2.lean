/- The walks: each of these functions of the program computes what its plain function says: laws_likeInts, spec_DrawCoefficientsOf, impl_CoefficientsOf_1, impl_asked__impl_CoefficientsOf_1, impl_CoefficientsOf, spec_CoefficientsOf, spec_DrawIsPermutation, impl_IsPermutation_1, impl_asked__impl_IsPermutation_1, impl_valuesOf, impl_IsPermutation, spec_IsPermutation, impl_ValuesOf_1, impl_asked__impl_ValuesOf_1, impl_ValuesOf, spec_ValuesOf, impl_OrderOfSpread_1, impl_asked__impl_OrderOfSpread_1, impl_orderOf, impl_OrderOfSpread, laws_hasInt. -/
import Derived.Test.YtccbmdpikalpfaaProg
import Derived.Test.YtccbmdpikalpfaaD1
import Derived.WalkKit
import Derived.KernelRfl
import Derived.BigQuiet
import Derived.Deep.LoopGhost
import Derived.Laws.StructEq
import Derived.Test.YtccbmdpikalpfaaWSpr1
namespace Go.Proofs.Ytccbmdpikalpfaa
open Go Go.RowKit
attribute [local go_sem] Oper.quiet Oper.quietAt Oper.quietUpon Act.put nm1 nm2 nm3 i64_w run_max2 run_min2
attribute [local irreducible] wpList
set_option linter.unusedVariables false
set_option linter.unusedSimpArgs false

set_option maxHeartbeats 40000000 in
set_option maxRecDepth 100000 in
theorem laws_likeInts.calls (K : Nat) (a0_A : Option Addr) (a0_c : Nat) (a0 : List (Int)) (a1_A : Option Addr) (a1_c : Nat) (a1 : List (Int)) (r0 : Bool) (w : World) (ha0 : Rd eI w a0_A a0) (ha1 : Rd eI w a1_A a1) (h : laws_likeInts.f K a0 a1 = some (r0)) :
    Calls Try.prog 23 #[.slice a0_A a0.length a0_c, .slice a1_A a1.length a1_c] w fun e w' => e = .returned (.bool r0) ∧ Up w w' := by
 have H : ((if ((a0.length : Int) == (a1.length : Int)) = true then (laws_likeInts.l0 K a0 a1 K 0) else some false) : Option (Bool)) = some (r0) := h
 clear h
 go_enter Try.func23, Try.ntmps23
 refine wp_hide (fun Qf hQf => ?_)
 refine wp_seq_k (fun K1 hK1 => ?_)
 refine wp_region_lit ?_
 refine wpp fun K_ h_ => ?_; go_simp; refine h_ _ _ ?_; clear h_ K_
 refine wpList_nil ?_
 (try simp only [Exit.then, Exit.inBlock, ↓reduceIte, Nat.reduceEqDiff])
 refine hK1 _ _ ?_
 refine wp_seq_k (fun K2 hK2 => ?_)
 refine wp_seq_k (fun K3 hK3 => ?_)
 refine wp_region_lit ?_
 refine wpp fun K_ h_ => ?_; go_simp; refine h_ _ _ ?_; clear h_ K_
 refine wpp fun K_ h_ => ?_; go_simp; refine h_ _ _ ?_; clear h_ K_
 refine wpp fun K_ h_ => ?_; go_simp; refine h_ _ _ ?_; clear h_ K_
 refine wpp fun K_ h_ => ?_; go_simp; refine h_ _ _ ?_; clear h_ K_
 refine wpp fun K_ h_ => ?_; go_simp; refine h_ _ _ ?_; clear h_ K_
 refine wpList_nil ?_
 (try simp only [Exit.then, Exit.inBlock, ↓reduceIte, Nat.reduceEqDiff])
 refine hK3 _ _ ?_
 by_cases c4 : ((a0.length : Int) == (a1.length : Int)) = true
 rotate_left
 ·
  rw [if_neg c4] at H; replace c4 := Bool.eq_false_iff.mpr c4
  have c4n : ((a0.length : Int) != (a1.length : Int)) = true := by rw [bne, c4]; rfl
  have c4p : ¬ (a0.length : Int) = (a1.length : Int) := fun e => by simp [e] at c4
  obtain rfl := Option.some.inj H
  try simp only [c4, c4n, Bool.not_true, Bool.not_false]
  refine wp_cond_true rfl ?_
  refine wp_seq_k (fun K40 hK40 => ?_)
  refine wp_region_lit ?_
  refine wpp fun K_ h_ => ?_; go_simp; refine h_ _ _ ?_; clear h_ K_
  refine wpList_nil ?_
  (try simp only [Exit.then, Exit.inBlock, ↓reduceIte, Nat.reduceEqDiff])
  refine hK40 _ _ ?_
  refine wp_ret ?_
  (try simp only [Exit.then, Exit.inBlock, ↓reduceIte, Nat.reduceEqDiff])
  refine hQf _ _ _ ?_
  exact bodyPost_ret (v := .bool false) (by first | rfl | (simp [results, Try.results23, go_sem]; done) | (simp [results, Try.results23, go_sem]; rfl)) rfl ⟨rfl, (Up.refl _)⟩
 rw [if_pos c4] at H
 have c4n : ((a0.length : Int) != (a1.length : Int)) = false := by rw [bne, c4]; rfl
 try simp only [c4, c4n, Bool.not_true, Bool.not_false]
 refine wp_cond_false rfl ?_
 refine wp_skip ?_
 (try simp only [Exit.then, Exit.inBlock, ↓reduceIte, Nat.reduceEqDiff])
 refine hK2 _ _ ?_
 refine wp_seq_k (fun K5 hK5 => ?_)
 refine wp_seq_k (fun K6 hK6 => ?_)
 refine wp_region_lit ?_
 refine wpp fun K_ h_ => ?_; go_simp; refine h_ _ _ ?_; clear h_ K_
 refine wpList_nil ?_
 (try simp only [Exit.then, Exit.inBlock, ↓reduceIte, Nat.reduceEqDiff])
 refine hK6 _ _ ?_
 refine wp_block ?_
 have HL11 := Aside0.mk H
 clear H
 go_loopg [5] K (fun kq v5 w' => ∃ (x7 : Int), v5 = .int .i64 x7 ∧ Aside0 (laws_likeInts.l0 K a0 a1 kq x7 = some (r0)) ∧ Aside0 (kq ≤ K) ∧ Aside0 (Up w w') ∧ Aside0 (w.heap.size ≤ w'.heap.size))
 case atStart => exact ⟨0, (by first | rfl | simp), HL11, ⟨Nat.le_refl _⟩, ⟨(Up.refl _)⟩, ⟨Nat.le_refl _⟩⟩
 case round =>
  rename_i J15 K16 hJ15 hK16
  obtain ⟨x7, rfl, HL14, hk13, hu9, hz10⟩ := hrel
  obtain ⟨w8, rfl⟩ : ∃ wo : World, wo = wr := ⟨_, rfl⟩
  obtain ⟨k12, rfl⟩ | rfl : (∃ k, gk = k + 1) ∨ gk = 0 := by rcases gk with _ | k; exact .inr rfl; exact .inl ⟨k, rfl⟩
  case inr => exact absurd HL14.out (by simp [laws_likeInts.l0])
  have H := HL14.out
  clear HL14
  rw [laws_likeInts.l0] at H
  refine wp_seq_k (fun K17 hK17 => ?_)
  refine wp_seq_k (fun K18 hK18 => ?_)
  refine wp_region_lit ?_
  refine wpp fun K_ h_ => ?_; go_simp; refine h_ _ _ ?_; clear h_ K_
  refine wpp fun K_ h_ => ?_; go_simp; refine h_ _ _ ?_; clear h_ K_
  refine wpp fun K_ h_ => ?_; go_simp; refine h_ _ _ ?_; clear h_ K_
  refine wpp fun K_ h_ => ?_; go_simp; refine h_ _ _ ?_; clear h_ K_
  refine wpList_nil ?_
  (try simp only [Exit.then, Exit.inBlock, ↓reduceIte, Nat.reduceEqDiff])
  refine hK18 _ _ ?_
  by_cases c19 : (decide (x7 < (a0.length : Int))) = true
  rotate_left
  ·
   rw [if_neg c19] at H; replace c19 := Bool.eq_false_iff.mpr c19
   obtain rfl := Option.some.inj H
   try simp only [c19, Bool.not_true, Bool.not_false]
   refine wp_cond_false rfl ?_
   refine wp_exit ?_
   (try simp only [Exit.then, Exit.inBlock, ↓reduceIte, Nat.reduceEqDiff])
   refine hK5 _ _ ?_
   refine wp_seq_k (fun K39 hK39 => ?_)
   refine wp_region_lit ?_
   refine wpp fun K_ h_ => ?_; go_simp; refine h_ _ _ ?_; clear h_ K_
   refine wpList_nil ?_
   (try simp only [Exit.then, Exit.inBlock, ↓reduceIte, Nat.reduceEqDiff])
   refine hK39 _ _ ?_
   refine wp_ret ?_
   (try simp only [Exit.then, Exit.inBlock, ↓reduceIte, Nat.reduceEqDiff])
   refine hQf _ _ _ ?_
   exact bodyPost_ret (v := .bool true) (by first | rfl | (simp [results, Try.results23, go_sem]; done) | (simp [results, Try.results23, go_sem]; rfl)) rfl ⟨rfl, hu9.out⟩
  rw [if_pos c19] at H
  replace H := Option.bind_eq_some_iff.mp H
  obtain ⟨t22, A23, H⟩ := H
  replace A23 := Aside0.mk A23
  try dsimp only at H
  replace H := Option.bind_eq_some_iff.mp H
  obtain ⟨t28, A29, H⟩ := H
  replace A29 := Aside0.mk A29
  try dsimp only at H
  try simp only [c19, Bool.not_true, Bool.not_false]
  refine wp_cond_true rfl ?_
  refine wp_skip ?_
  (try simp only [Exit.then, Exit.inBlock, ↓reduceIte, Nat.reduceEqDiff])
  refine hK17 _ _ ?_
  refine wp_seq_k (fun K20 hK20 => ?_)
  refine wp_block ?_
  refine wp_seq_k (fun K21 hK21 => ?_)
  obtain ⟨ad24, hat, he⟩ := rd_at (ha0.up hu9.out) A23.out
  have he25 := Aside0.mk he
  have hat27 := Aside0.mk hat
  clear he hat
  obtain ⟨ad30, hat, he⟩ := rd_at (ha1.up hu9.out) A29.out
  have he31 := Aside0.mk he
  have hat33 := Aside0.mk hat
  clear he hat
  refine' wp_region_up 9 [Slot.det _, Slot.det _, Slot.det (.pointer (some ad24)), Slot.det _, Slot.det _, Slot.det _, Slot.det (.pointer (some ad30)), Slot.det _, Slot.det _] (by kernel_rfl) (by kernel_rfl) ?main
  case main =>
   simp only [List.take_succ_cons, List.take_zero]
   refine wpK_ops rfl (fun w1 hu => ?_) ?_
   · clear hu
     go_simp
     first | done | rfl
   simp only [Act.put, nm1, nm2, nm3, i64_w]
   refine wpK_ops rfl (fun w1 hu => ?_) ?_
   · clear hu
     go_simp
     first | done | rfl
   simp only [Act.put, nm1, nm2, nm3, i64_w]
   refine wpK_ops rfl (fun w1 hu => ?_) ?_
   · exact quiet_index eI (T := 2) rfl (by kernel_rfl) (by kernel_rfl) rfl rfl rfl hat27.out A23.out
   simp only [Act.put, nm1, nm2, nm3, i64_w]
   refine wpK_ops rfl (fun w1 hu => ?_) ?_
   · have cl0 := he25.out 0 _ rfl
     rw [addr_add0] at cl0
     replace cl0 := (((Up.refl _).drew.trans hu)).kept cl0
     go_simp
     first | done | rfl
   simp only [Act.put, nm1, nm2, nm3, i64_w]
   refine wpK_ops rfl (fun w1 hu => ?_) ?_
   · clear hu
     go_simp
     first | done | rfl
   simp only [Act.put, nm1, nm2, nm3, i64_w]
   refine wpK_ops rfl (fun w1 hu => ?_) ?_
   · clear hu
     go_simp
     first | done | rfl
   simp only [Act.put, nm1, nm2, nm3, i64_w]
   refine wpK_ops rfl (fun w1 hu => ?_) ?_
   · exact quiet_index eI (T := 2) rfl (by kernel_rfl) (by kernel_rfl) rfl rfl rfl hat33.out A29.out
   simp only [Act.put, nm1, nm2, nm3, i64_w]
   refine wpK_ops rfl (fun w1 hu => ?_) ?_
   · have cl0 := he31.out 0 _ rfl
     rw [addr_add0] at cl0
     replace cl0 := (((Up.refl _).drew.trans hu)).kept cl0
     go_simp
     first | done | rfl
   simp only [Act.put, nm1, nm2, nm3, i64_w]
   refine wpK_ops rfl (fun w1 hu => ?_) ?_
   · clear hu
     go_simp
     first | done | rfl
   simp only [Act.put, nm1, nm2, nm3, i64_w]
   refine wpK_nil ?_
   intro w34 hu hap
   simp only [List.drop_succ_cons, List.drop_zero]
   replace hu := (Up.refl _).drew.trans hu
   clear hap
   have hu35 := Aside0.mk hu
   clear hu
   refine wpList_nil ?_
   (try simp only [Exit.then, Exit.inBlock, ↓reduceIte, Nat.reduceEqDiff])
   refine hK21 _ _ ?_
   by_cases c36 : (t22 == t28) = true
   rotate_left
   ·
    rw [if_neg c36] at H; replace c36 := Bool.eq_false_iff.mpr c36
    have c36n : (t22 != t28) = true := by rw [bne, c36]; rfl
    have c36p : ¬ t22 = t28 := fun e => by simp [e] at c36
    obtain rfl := Option.some.inj H
    try simp only [c36, c36n, Bool.not_true, Bool.not_false]
    refine wp_cond_true rfl ?_
    refine wp_seq_k (fun K38 hK38 => ?_)
    refine wp_region_lit ?_
    refine wpp fun K_ h_ => ?_; go_simp; refine h_ _ _ ?_; clear h_ K_
    refine wpList_nil ?_
    (try simp only [Exit.then, Exit.inBlock, ↓reduceIte, Nat.reduceEqDiff])
    refine hK38 _ _ ?_
    refine wp_ret ?_
    (try simp only [Exit.then, Exit.inBlock, ↓reduceIte, Nat.reduceEqDiff])
    refine hQf _ _ _ ?_
    exact bodyPost_ret (v := .bool false) (by first | rfl | (simp [results, Try.results23, go_sem]; done) | (simp [results, Try.results23, go_sem]; rfl)) rfl ⟨rfl, (hu9.out.trans hu35.out)⟩
   rw [if_pos c36] at H
   have c36n : (t22 != t28) = false := by rw [bne, c36]; rfl
   have HL37 := Aside0.mk H
   clear H
   try simp only [c36, c36n, Bool.not_true, Bool.not_false]
   refine wp_cond_false rfl ?_
   refine wp_skip ?_
   (try simp only [Exit.then, Exit.inBlock, ↓reduceIte, Nat.reduceEqDiff])
   refine hK20 _ _ ?_
   refine wp_region_lit ?_
   refine wpp fun K_ h_ => ?_; go_simp; refine h_ _ _ ?_; clear h_ K_
   refine wpp fun K_ h_ => ?_; go_simp; refine h_ _ _ ?_; clear h_ K_
   refine wpp fun K_ h_ => ?_; go_simp; refine h_ _ _ ?_; clear h_ K_
   refine wpList_nil ?_
   (try simp only [Exit.then, Exit.inBlock, ↓reduceIte, Nat.reduceEqDiff])
   refine hK16 _ _ ?_
   go_roundg k12
   case measure => exact Nat.lt_succ_self _
   case rel => exact ⟨wrap64 (x7 + 1), (by first | rfl | simp), HL37, ⟨by have := hk13.out; omega⟩, ⟨(hu9.out.trans hu35.out)⟩, ⟨(Nat.le_trans ((Nat.le_trans (Nat.le_refl _) hz10.out)) hu35.out.size)⟩⟩

set_option maxHeartbeats 40000000 in
set_option maxRecDepth 100000 in
theorem spec_DrawCoefficientsOf.calls (K : Nat) (a0_A : Option Addr) (a0_c : Nat) (a0 : List (Int)) (r0 : Int) (r1 : Int) (w : World) (ha0 : Rd eU8 w a0_A a0) (h : spec_DrawCoefficientsOf.f K a0 = some (r0, r1)) :
    Calls Try.prog 26 #[.slice a0_A a0.length a0_c] w fun e w' => e = .returned (.tuple #[.int .i64 r0, .int .i64 r1]) ∧ Up w w' := by
 have H : (((spec_l01From.f K a0).bind fun (t4, t5) => ((spec_l01DrawField.f K a0 t4 t5).bind fun (t10, t11, t12) => ((spec_l01Near.f K a0 t11 t12 40).bind fun (t18, t19, t20) => ((spec_l01BadField.f K a0 t19 t20 t10).bind fun (t26, t27, t28) => some (t26, t18))))) : Option (Int × Int)) = some (r0, r1) := h
 clear h
 replace H := Option.bind_eq_some_iff.mp H
 obtain ⟨⟨t4, t5⟩, A6, H⟩ := H
 replace A6 := Aside0.mk A6
 try dsimp only at H
 replace H := Option.bind_eq_some_iff.mp H
 obtain ⟨⟨t10, t11, t12⟩, A13, H⟩ := H
 replace A13 := Aside0.mk A13
 try dsimp only at H
 replace H := Option.bind_eq_some_iff.mp H
 obtain ⟨⟨t18, t19, t20⟩, A21, H⟩ := H
 replace A21 := Aside0.mk A21
 try dsimp only at H
 replace H := Option.bind_eq_some_iff.mp H
 obtain ⟨⟨t26, t27, t28⟩, A29, H⟩ := H
 replace A29 := Aside0.mk A29
 try dsimp only at H
 simp only [Option.some.injEq, Prod.mk.injEq] at H
 obtain ⟨rfl, rfl⟩ := H
 go_enter Try.func26, Try.ntmps26
 refine wp_hide (fun Qf hQf => ?_)
 refine wp_seq_k (fun K1 hK1 => ?_)
 refine wp_region_lit ?_
 refine wpp fun K_ h_ => ?_; go_simp; refine h_ _ _ ?_; clear h_ K_
 refine wpp fun K_ h_ => ?_; go_simp; refine h_ _ _ ?_; clear h_ K_
 refine wpList_nil ?_
 (try simp only [Exit.then, Exit.inBlock, ↓reduceIte, Nat.reduceEqDiff])
 refine hK1 _ _ ?_
 refine wp_seq_k (fun K2 hK2 => ?_)
 refine wp_region_lit ?_
 refine wpp fun K_ h_ => ?_; go_simp; refine h_ _ _ ?_; clear h_ K_
 refine step_call (wanted_none rfl) (by go_simp <;> rfl) (spec_l01From.calls K a0_A a0_c a0 t4 t5 w ha0 A6.out) ?_
 rintro e w7 ⟨b3, rfl, hb3, lb, hu⟩
 have lbb3 := lb
 have ltb3 := Aside0.mk hb3.lt
 clear lb
 have hu8 := Aside0.mk hu
 clear hu
 refine ⟨_, rfl, ?_⟩
 simp only [Act.put, nm1, nm2, nm3, i64_w]
 refine wpp fun K_ h_ => ?_; go_simp; refine h_ _ _ ?_; clear h_ K_
 refine wpList_nil ?_
 (try simp only [Exit.then, Exit.inBlock, ↓reduceIte, Nat.reduceEqDiff])
 refine hK2 _ _ ?_
 refine wp_seq_k (fun K9 hK9 => ?_)
 refine wp_region_lit ?_
 refine wpp fun K_ h_ => ?_; go_simp; refine h_ _ _ ?_; clear h_ K_
 refine step_call (wanted_none rfl) (by go_simp <;> rfl) (spec_l01DrawField.calls K b3 a0_A a0_c a0 t4 t5 t10 t11 t12 w7 hb3 (ha0.up hu8.out) (fun k hk hp => Nat.ne_of_lt (Nat.lt_of_lt_of_le (ha0.blk_lt hp k hk) lbb3.out)) A13.out) ?_
 rintro e w14 ⟨rfl, h15, hs⟩
 have hs16 := Aside0.mk hs
 clear hs
 refine ⟨_, rfl, ?_⟩
 simp only [Act.put, nm1, nm2, nm3, i64_w]
 refine wpp fun K_ h_ => ?_; go_simp; refine h_ _ _ ?_; clear h_ K_
 refine wpList_nil ?_
 (try simp only [Exit.then, Exit.inBlock, ↓reduceIte, Nat.reduceEqDiff])
 refine hK9 _ _ ?_
 refine wp_seq_k (fun K17 hK17 => ?_)
 refine wp_region_lit ?_
 refine wpp fun K_ h_ => ?_; go_simp; refine h_ _ _ ?_; clear h_ K_
 refine step_call (wanted_none rfl) (by go_simp <;> rfl) (spec_l01Near.calls K b3 a0_A a0_c a0 t11 t12 40 t18 t19 t20 w14 h15 (ha0.up (hu8.out.grow hs16.out (fun k hk => Nat.le_trans (Nat.le_refl _) ((fun k hk => Nat.le_trans lbb3.out (Nat.le_of_eq (Option.some.inj hk))) k hk)))) (fun k hk hp => Nat.ne_of_lt (Nat.lt_of_lt_of_le (ha0.blk_lt hp k hk) lbb3.out)) A21.out) ?_
 rintro e w22 ⟨rfl, h23, hs⟩
 have hs24 := Aside0.mk hs
 clear hs
 refine ⟨_, rfl, ?_⟩
 simp only [Act.put, nm1, nm2, nm3, i64_w]
 refine wpp fun K_ h_ => ?_; go_simp; refine h_ _ _ ?_; clear h_ K_
 refine wpList_nil ?_
 (try simp only [Exit.then, Exit.inBlock, ↓reduceIte, Nat.reduceEqDiff])
 refine hK17 _ _ ?_
 refine wp_seq_k (fun K25 hK25 => ?_)
 refine wp_region_lit ?_
 refine wpp fun K_ h_ => ?_; go_simp; refine h_ _ _ ?_; clear h_ K_
 refine wpp fun K_ h_ => ?_; go_simp; refine h_ _ _ ?_; clear h_ K_
 refine step_call (wanted_none rfl) (by go_simp <;> rfl) (spec_l01BadField.calls K b3 a0_A a0_c a0 t19 t20 t10 t26 t27 t28 w22 h23 (ha0.up ((hu8.out.grow hs16.out (fun k hk => Nat.le_trans (Nat.le_refl _) ((fun k hk => Nat.le_trans lbb3.out (Nat.le_of_eq (Option.some.inj hk))) k hk))).grow hs24.out (fun k hk => Nat.le_trans (Nat.le_refl _) ((fun k hk => Nat.le_trans lbb3.out (Nat.le_of_eq (Option.some.inj hk))) k hk)))) (fun k hk hp => Nat.ne_of_lt (Nat.lt_of_lt_of_le (ha0.blk_lt hp k hk) lbb3.out)) A29.out) ?_
 rintro e w30 ⟨rfl, h31, hs⟩
 have hs32 := Aside0.mk hs
 clear hs
 refine ⟨_, rfl, ?_⟩
 simp only [Act.put, nm1, nm2, nm3, i64_w]
 refine wpp fun K_ h_ => ?_; go_simp; refine h_ _ _ ?_; clear h_ K_
 refine wpp fun K_ h_ => ?_; go_simp; refine h_ _ _ ?_; clear h_ K_
 refine wpp fun K_ h_ => ?_; go_simp; refine h_ _ _ ?_; clear h_ K_
 refine wpList_nil ?_
 (try simp only [Exit.then, Exit.inBlock, ↓reduceIte, Nat.reduceEqDiff])
 refine hK25 _ _ ?_
 refine wp_ret ?_
 (try simp only [Exit.then, Exit.inBlock, ↓reduceIte, Nat.reduceEqDiff])
 refine hQf _ _ _ ?_
 exact bodyPost_ret (v := .tuple #[.int .i64 t26, .int .i64 t18]) (by first | rfl | (simp [results, Try.results26, go_sem]; done) | (simp [results, Try.results26, go_sem]; rfl)) rfl ⟨rfl, (((hu8.out.grow hs16.out (fun k hk => Nat.le_trans (Nat.le_refl _) ((fun k hk => Nat.le_trans lbb3.out (Nat.le_of_eq (Option.some.inj hk))) k hk))).grow hs24.out (fun k hk => Nat.le_trans (Nat.le_refl _) ((fun k hk => Nat.le_trans lbb3.out (Nat.le_of_eq (Option.some.inj hk))) k hk))).grow hs32.out (fun k hk => Nat.le_trans (Nat.le_refl _) ((fun k hk => Nat.le_trans lbb3.out (Nat.le_of_eq (Option.some.inj hk))) k hk)))⟩

set_option maxHeartbeats 40000000 in
set_option maxRecDepth 100000 in
theorem impl_CoefficientsOf_1.calls (K : Nat) (bf0 : Nat) (f0_0 : Int) (r0 : Bool) (w : World) (hf0 : Blk w bf0 [.int .i64 f0_0] 2) (h : impl_CoefficientsOf_1.f K f0_0 = some (r0)) :
    Calls Try.prog 109 #[.pointer (some ⟨bf0, 0, none⟩)] w fun e w' => e = .returned (.bool r0) ∧ Up w w' := by
 have H : ((if decide (0 ≤ f0_0) = true then some (decide (f0_0 ≤ 40)) else some false) : Option (Bool)) = some (r0) := h
 clear h
 have ltbf0 := Aside0.mk hf0.lt
 go_enter Try.func109, Try.ntmps109
 refine wp_hide (fun Qf hQf => ?_)
 refine wp_seq_k (fun K1 hK1 => ?_)
 refine wp_region_lit ?_
 refine wpp fun K_ h_ => ?_; go_simp; refine h_ _ _ ?_; clear h_ K_
 refine wpList_nil ?_
 (try simp only [Exit.then, Exit.inBlock, ↓reduceIte, Nat.reduceEqDiff])
 refine hK1 _ _ ?_
 refine wp_seq_k (fun K2 hK2 => ?_)
 refine wp_region_lit ?_
 have cl0 := hf0.cell (o := 0) rfl
 refine wpp fun K_ h_ => ?_; go_simp; refine h_ _ _ ?_; clear h_ K_
 clear cl0
 refine wpp fun K_ h_ => ?_; go_simp; refine h_ _ _ ?_; clear h_ K_
 refine wpp fun K_ h_ => ?_; go_simp; refine h_ _ _ ?_; clear h_ K_
 by_cases c3 : (decide (0 ≤ f0_0)) = true
 rotate_left
 ·
  rw [if_neg c3] at H; replace c3 := Bool.eq_false_iff.mpr c3
  obtain rfl := Option.some.inj H
  try simp only [c3, Bool.not_true, Bool.not_false]
  refine step_no rfl ?_
  simp only [Act.put, nm1, nm2, nm3, i64_w]
  refine step_no rfl ?_
  simp only [Act.put, nm1, nm2, nm3, i64_w]
  refine wpp fun K_ h_ => ?_; go_simp; refine h_ _ _ ?_; clear h_ K_
  refine wpp fun K_ h_ => ?_; go_simp; refine h_ _ _ ?_; clear h_ K_
  refine wpList_nil ?_
  (try simp only [Exit.then, Exit.inBlock, ↓reduceIte, Nat.reduceEqDiff])
  refine hK2 _ _ ?_
  refine wp_ret ?_
  (try simp only [Exit.then, Exit.inBlock, ↓reduceIte, Nat.reduceEqDiff])
  refine hQf _ _ _ ?_
  exact bodyPost_ret (v := .bool false) (by first | rfl | (simp [results, Try.results109, go_sem]; done) | (simp [results, Try.results109, go_sem]; rfl)) rfl ⟨rfl, (Up.refl _)⟩
 rw [if_pos c3] at H
 obtain rfl := Option.some.inj H
 try simp only [c3, Bool.not_true, Bool.not_false]
 have cl0 := hf0.cell (o := 0) rfl
 refine wpList_step fun K_ h_ => ?_; go_simp; refine h_ _ _ ?_; clear h_ K_
 clear cl0
 refine wpList_step fun K_ h_ => ?_; go_simp; refine h_ _ _ ?_; clear h_ K_
 refine wpp fun K_ h_ => ?_; go_simp; refine h_ _ _ ?_; clear h_ K_
 refine wpp fun K_ h_ => ?_; go_simp; refine h_ _ _ ?_; clear h_ K_
 refine wpList_nil ?_
 (try simp only [Exit.then, Exit.inBlock, ↓reduceIte, Nat.reduceEqDiff])
 refine hK2 _ _ ?_
 refine wp_ret ?_
 (try simp only [Exit.then, Exit.inBlock, ↓reduceIte, Nat.reduceEqDiff])
 refine hQf _ _ _ ?_
 exact bodyPost_ret (v := .bool (decide (f0_0 ≤ 40))) (by first | rfl | (simp [results, Try.results109, go_sem]; done) | (simp [results, Try.results109, go_sem]; rfl)) rfl ⟨rfl, (Up.refl _)⟩

set_option maxHeartbeats 40000000 in
set_option maxRecDepth 100000 in
theorem impl_asked__impl_CoefficientsOf_1.calls (K : Nat) (a0 : Int) (bc1_0 : Nat) (c1_0_0 : Int) (r0 : Int) (w : World) (hc1_0 : Blk w bc1_0 [.int .i64 c1_0_0] 2) (h : impl_asked__impl_CoefficientsOf_1.f K a0 c1_0_0 = some (r0)) :
    Calls Try.prog 67 #[.int .i64 a0, .func (.func 109) #[] #[.pointer (some ⟨bc1_0, 0, none⟩)]] w fun e w' => e = .returned (.int .i64 r0) ∧ Up w w' := by
 have H : (((impl_IsField.f K a0).bind fun t4 => (if t4 = true then ((impl_CoefficientsOf_1.f K c1_0_0).bind fun t11 => (if t11 = true then some 0 else some 2)) else some 1)) : Option (Int)) = some (r0) := h
 clear h
 replace H := Option.bind_eq_some_iff.mp H
 obtain ⟨t4, A5, H⟩ := H
 replace A5 := Aside0.mk A5
 try dsimp only at H
 have ltbc1_0 := Aside0.mk hc1_0.lt
 go_enter Try.func67, Try.ntmps67
 refine wp_hide (fun Qf hQf => ?_)
 refine wp_seq_k (fun K1 hK1 => ?_)
 refine wp_region_lit ?_
 refine wpp fun K_ h_ => ?_; go_simp; refine h_ _ _ ?_; clear h_ K_
 refine wpList_nil ?_
 (try simp only [Exit.then, Exit.inBlock, ↓reduceIte, Nat.reduceEqDiff])
 refine hK1 _ _ ?_
 refine wp_seq_k (fun K2 hK2 => ?_)
 refine wp_seq_k (fun K3 hK3 => ?_)
 refine wp_region_lit ?_
 refine wpp fun K_ h_ => ?_; go_simp; refine h_ _ _ ?_; clear h_ K_
 refine step_call (wanted_none rfl) (by go_simp <;> rfl) (impl_IsField.calls K a0 t4 w  A5.out) ?_
 rintro e w6 ⟨rfl, hu⟩
 have hu7 := Aside0.mk hu
 clear hu
 refine ⟨_, rfl, ?_⟩
 simp only [Act.put, nm1, nm2, nm3, i64_w]
 refine wpp fun K_ h_ => ?_; go_simp; refine h_ _ _ ?_; clear h_ K_
 refine wpList_nil ?_
 (try simp only [Exit.then, Exit.inBlock, ↓reduceIte, Nat.reduceEqDiff])
 refine hK3 _ _ ?_
 by_cases c8 : (t4) = true
 rotate_left
 ·
  rw [if_neg c8] at H; replace c8 := Bool.eq_false_iff.mpr c8
  subst c8
  obtain rfl := Option.some.inj H
  refine wp_cond_true rfl ?_
  refine wp_seq_k (fun K18 hK18 => ?_)
  refine wp_region_lit ?_
  refine wpp fun K_ h_ => ?_; go_simp; refine h_ _ _ ?_; clear h_ K_
  refine wpList_nil ?_
  (try simp only [Exit.then, Exit.inBlock, ↓reduceIte, Nat.reduceEqDiff])
  refine hK18 _ _ ?_
  refine wp_ret ?_
  (try simp only [Exit.then, Exit.inBlock, ↓reduceIte, Nat.reduceEqDiff])
  refine hQf _ _ _ ?_
  exact bodyPost_ret (v := .int .i64 1) (by first | rfl | (simp [results, Try.results67, go_sem]; done) | (simp [results, Try.results67, go_sem]; rfl)) rfl ⟨rfl, hu7.out⟩
 rw [if_pos c8] at H
 subst c8
 replace H := Option.bind_eq_some_iff.mp H
 obtain ⟨t11, A12, H⟩ := H
 replace A12 := Aside0.mk A12
 try dsimp only at H
 refine wp_cond_false rfl ?_
 refine wp_skip ?_
 (try simp only [Exit.then, Exit.inBlock, ↓reduceIte, Nat.reduceEqDiff])
 refine hK2 _ _ ?_
 refine wp_seq_k (fun K9 hK9 => ?_)
 refine wp_seq_k (fun K10 hK10 => ?_)
 refine wp_region_lit ?_
 refine wpp fun K_ h_ => ?_; go_simp; refine h_ _ _ ?_; clear h_ K_
 refine step_call (wanted_none rfl) (by go_simp <;> rfl) (impl_CoefficientsOf_1.calls K bc1_0 c1_0_0 t11 w6 (hc1_0.up hu7.out) A12.out) ?_
 rintro e w13 ⟨rfl, hu⟩
 have hu14 := Aside0.mk hu
 clear hu
 refine ⟨_, rfl, ?_⟩
 simp only [Act.put, nm1, nm2, nm3, i64_w]
 refine wpp fun K_ h_ => ?_; go_simp; refine h_ _ _ ?_; clear h_ K_
 refine wpList_nil ?_
 (try simp only [Exit.then, Exit.inBlock, ↓reduceIte, Nat.reduceEqDiff])
 refine hK10 _ _ ?_
 by_cases c15 : (t11) = true
 rotate_left
 ·
  rw [if_neg c15] at H; replace c15 := Bool.eq_false_iff.mpr c15
  subst c15
  obtain rfl := Option.some.inj H
  refine wp_cond_true rfl ?_
  refine wp_seq_k (fun K17 hK17 => ?_)
  refine wp_region_lit ?_
  refine wpp fun K_ h_ => ?_; go_simp; refine h_ _ _ ?_; clear h_ K_
  refine wpList_nil ?_
  (try simp only [Exit.then, Exit.inBlock, ↓reduceIte, Nat.reduceEqDiff])
  refine hK17 _ _ ?_
  refine wp_ret ?_
  (try simp only [Exit.then, Exit.inBlock, ↓reduceIte, Nat.reduceEqDiff])
  refine hQf _ _ _ ?_
  exact bodyPost_ret (v := .int .i64 2) (by first | rfl | (simp [results, Try.results67, go_sem]; done) | (simp [results, Try.results67, go_sem]; rfl)) rfl ⟨rfl, (hu7.out.trans hu14.out)⟩
 rw [if_pos c15] at H
 subst c15
 obtain rfl := Option.some.inj H
 refine wp_cond_false rfl ?_
 refine wp_skip ?_
 (try simp only [Exit.then, Exit.inBlock, ↓reduceIte, Nat.reduceEqDiff])
 refine hK9 _ _ ?_
 refine wp_seq_k (fun K16 hK16 => ?_)
 refine wp_region_lit ?_
 refine wpp fun K_ h_ => ?_; go_simp; refine h_ _ _ ?_; clear h_ K_
 refine wpList_nil ?_
 (try simp only [Exit.then, Exit.inBlock, ↓reduceIte, Nat.reduceEqDiff])
 refine hK16 _ _ ?_
 refine wp_ret ?_
 (try simp only [Exit.then, Exit.inBlock, ↓reduceIte, Nat.reduceEqDiff])
 refine hQf _ _ _ ?_
 exact bodyPost_ret (v := .int .i64 0) (by first | rfl | (simp [results, Try.results67, go_sem]; done) | (simp [results, Try.results67, go_sem]; rfl)) rfl ⟨rfl, (hu7.out.trans hu14.out)⟩

set_option maxHeartbeats 40000000 in
set_option maxRecDepth 100000 in
theorem impl_CoefficientsOf.calls (K : Nat) (a0 : Int) (a1 : Int) (r0 : List (Int)) (r1 : Int) (w : World)  (h : impl_CoefficientsOf.f K a0 a1 = some (r0, r1)) :
    Calls Try.prog 27 #[.int .i64 a0, .int .i64 a1] w fun e w' => ∃ (Ar0 : Option Addr) (cr0 : Nat), e = .returned (.tuple #[.slice Ar0 r0.length cr0, .int .i64 r1]) ∧ Own eI 2 w' w.heap.size (.slice Ar0 r0.length cr0) r0 ∧ Up w w' := by
 have H : (((impl_asked__impl_CoefficientsOf_1.f K a0 a1).bind fun t7 => (if (t7 == 0) = true then (if decide (0 ≤ (wrap64 (a1 + 2))) = true then (if decide ((wrap64 (a1 + 2)) ≤ 1000000) = true then ((idx (repl ((wrap64 (a1 + 2)).toNat) (0 : Int)) 1).bind fun t28 => (if (a1 == 0) = true then ((cutHi (repl ((wrap64 (a1 + 2)).toNat) (0 : Int)) 1).bind fun t47 => some (t47, 0)) else (impl_CoefficientsOf.l0 K a0 a1 K 1 (repl ((wrap64 (a1 + 2)).toNat) (0 : Int)) ((repl ((wrap64 (a1 + 2)).toNat) (0 : Int)).set (1 : Int).toNat 1)))) else none) else none) else some ([], t7))) : Option (List (Int) × Int)) = some (r0, r1) := h
 clear h
 replace H := Option.bind_eq_some_iff.mp H
 obtain ⟨t7, A8, H⟩ := H
 replace A8 := Aside0.mk A8
 try dsimp only at H
 go_enter Try.func27, Try.ntmps27
 refine wp_hide (fun Qf hQf => ?_)
 refine wp_seq_k (fun K1 hK1 => ?_)
 refine wp_region_lit ?_
 refine step_new (cs := [.int .i64 a1]) (T := 2) (f := fun b => .pointer (some ⟨b, 0, none⟩)) rfl (by go_simp <;> rfl) ?_
 intro b2 w3 hu lb hb2
 simp only [Act.put, nm1, nm2, nm3, i64_w]
 have lbb2 := Aside0.mk lb
 have ltb2 := Aside0.mk hb2.lt
 clear lb
 have hu4 := Aside0.mk hu
 clear hu
 refine wpp fun K_ h_ => ?_; go_simp; refine h_ _ _ ?_; clear h_ K_
 refine wpp fun K_ h_ => ?_; go_simp; refine h_ _ _ ?_; clear h_ K_
 refine wpList_nil ?_
 (try simp only [Exit.then, Exit.inBlock, ↓reduceIte, Nat.reduceEqDiff])
 refine hK1 _ _ ?_
 refine wp_seq_k (fun K5 hK5 => ?_)
 refine wp_seq_k (fun K6 hK6 => ?_)
 refine wp_region_lit ?_
 refine wpp fun K_ h_ => ?_; go_simp; refine h_ _ _ ?_; clear h_ K_
 refine wpp fun K_ h_ => ?_; go_simp; refine h_ _ _ ?_; clear h_ K_
 refine step_call (wanted_none rfl) (by go_simp <;> rfl) (impl_asked__impl_CoefficientsOf_1.calls K a0 b2 a1 t7 w3 hb2 A8.out) ?_
 rintro e w9 ⟨rfl, hu⟩
 have hu10 := Aside0.mk hu
 clear hu
 refine ⟨_, rfl, ?_⟩
 simp only [Act.put, nm1, nm2, nm3, i64_w]
 refine wpp fun K_ h_ => ?_; go_simp; refine h_ _ _ ?_; clear h_ K_
 refine wpList_nil ?_
 (try simp only [Exit.then, Exit.inBlock, ↓reduceIte, Nat.reduceEqDiff])
 refine hK6 _ _ ?_
 refine wp_seq_k (fun K11 hK11 => ?_)
 refine wp_region_lit ?_
 refine wpp fun K_ h_ => ?_; go_simp; refine h_ _ _ ?_; clear h_ K_
 refine wpp fun K_ h_ => ?_; go_simp; refine h_ _ _ ?_; clear h_ K_
 refine wpList_nil ?_
 (try simp only [Exit.then, Exit.inBlock, ↓reduceIte, Nat.reduceEqDiff])
 refine hK11 _ _ ?_
 by_cases c12 : (t7 == 0) = true
 rotate_left
 ·
  rw [if_neg c12] at H; replace c12 := Bool.eq_false_iff.mpr c12
  have c12n : (t7 != 0) = true := by rw [bne, c12]; rfl
  have c12p : ¬ t7 = 0 := fun e => by simp [e] at c12
  simp only [Option.some.injEq, Prod.mk.injEq] at H
  obtain ⟨rfl, rfl⟩ := H
  try simp only [c12, c12n, Bool.not_true, Bool.not_false]
  refine wp_cond_true rfl ?_
  refine wp_seq_k (fun K322 hK322 => ?_)
  refine wp_region_lit ?_
  refine wpp fun K_ h_ => ?_; go_simp; refine h_ _ _ ?_; clear h_ K_
  refine wpp fun K_ h_ => ?_; go_simp; refine h_ _ _ ?_; clear h_ K_
  refine wpp fun K_ h_ => ?_; go_simp; refine h_ _ _ ?_; clear h_ K_
  refine wpList_nil ?_
  (try simp only [Exit.then, Exit.inBlock, ↓reduceIte, Nat.reduceEqDiff])
  refine hK322 _ _ ?_
  refine wp_ret ?_
  have h324 : Own eI 2 w9 w9.heap.size (.slice none ([] : List (Int)).length 0) [] := Own.nil
  (try simp only [Exit.then, Exit.inBlock, ↓reduceIte, Nat.reduceEqDiff])
  refine hQf _ _ _ ?_
  exact bodyPost_ret (v := .tuple #[.slice none 0 0, .int .i64 t7]) (by first | rfl | (simp [results, Try.results27, go_sem]; done) | (simp [results, Try.results27, go_sem]; rfl)) rfl ⟨none, 0, rfl, (h324.lower ((Nat.le_trans (hu4.out.size) hu10.out.size))), (hu4.out.trans hu10.out)⟩
 rw [if_pos c12] at H
 have c12n : (t7 != 0) = false := by rw [bne, c12]; rfl
 try simp only [c12, c12n, Bool.not_true, Bool.not_false]
 refine wp_cond_false rfl ?_
 refine wp_skip ?_
 (try simp only [Exit.then, Exit.inBlock, ↓reduceIte, Nat.reduceEqDiff])
 refine hK5 _ _ ?_
 refine wp_seq_k (fun K13 hK13 => ?_)
 by_cases c14 : (decide (0 ≤ (wrap64 (a1 + 2)))) = true
 rotate_left
 ·
  rw [if_neg c14] at H; replace c14 := Bool.eq_false_iff.mpr c14
  exact absurd H (by simp)
 rw [if_pos c14] at H
 try simp only [c14, Bool.not_true, Bool.not_false]
 by_cases c15 : (decide ((wrap64 (a1 + 2)) ≤ 1000000)) = true
 rotate_left
 ·
  rw [if_neg c15] at H; replace c15 := Bool.eq_false_iff.mpr c15
  exact absurd H (by simp)
 rw [if_pos c15] at H
 replace H := Option.bind_eq_some_iff.mp H
 obtain ⟨t28, A29, H⟩ := H
 replace A29 := Aside0.mk A29
 try dsimp only at H
 try simp only [c15, Bool.not_true, Bool.not_false]
 refine' wp_region_up 8 [Slot.det _, Slot.det _, Slot.any (RowTo eI 2 w9.heap.size (repl ((wrap64 (a1 + 2)).toNat) (0 : Int)) (fun v => v)) true, Slot.det _, Slot.det _, Slot.any (RowTo eI 2 w9.heap.size (repl ((wrap64 (a1 + 2)).toNat) (0 : Int)) (fun v => v)) true, Slot.same 2, Slot.same 5] (by kernel_rfl) (by kernel_rfl) ?main
 case main =>
  simp only [List.take_succ_cons, List.take_zero]
  refine wpK_ops rfl (fun w1 hu => ?_) ?_
  · have cl0 := ((hb2.up hu10.out).up ((Up.refl _).drew.trans hu)).cell (o := 0) rfl
    go_simp
    first | done | rfl
  simp only [Act.put, nm1, nm2, nm3, i64_w]
  refine wpK_ops rfl (fun w1 hu => ?_) ?_
  · clear hu
    go_simp
    first | done | rfl
  simp only [Act.put, nm1, nm2, nm3, i64_w]
  refine wpK_any rfl (stab_row _ _ _ _ _) (fun w1 hu _ => fresh_make eI (z := .int .i64 0) (bytes := 8) (n := wrap64 (a1 + 2)) (z0 := 0) _ _ rfl rfl rfl (by kernel_rfl) (by kernel_rfl) rfl (by decide) (of_decide_eq_true (by assumption)) (by have h1_ : wrap64 (a1 + 2) ≤ 1000000 := of_decide_eq_true (by assumption); omega) (by have h1_ : wrap64 (a1 + 2) ≤ 1000000 := of_decide_eq_true (by assumption); omega) ((Up.refl _).drew.trans hu).size) (fun v19 => ?_)
  simp only [Act.put, nm1, nm2, nm3, i64_w]
  refine wpK_ops rfl (fun w1 hu => ?_) ?_
  · have cl0 := ((hb2.up hu10.out).up ((Up.refl _).drew.trans hu)).cell (o := 0) rfl
    go_simp
    first | done | rfl
  simp only [Act.put, nm1, nm2, nm3, i64_w]
  refine wpK_ops rfl (fun w1 hu => ?_) ?_
  · clear hu
    go_simp
    first | done | rfl
  simp only [Act.put, nm1, nm2, nm3, i64_w]
  refine wpK_any rfl (stab_row _ _ _ _ _) (fun w1 hu _ => fresh_make eI (z := .int .i64 0) (bytes := 8) (n := wrap64 (a1 + 2)) (z0 := 0) _ _ rfl rfl rfl (by kernel_rfl) (by kernel_rfl) rfl (by decide) (of_decide_eq_true (by assumption)) (by have h1_ : wrap64 (a1 + 2) ≤ 1000000 := of_decide_eq_true (by assumption); omega) (by have h1_ : wrap64 (a1 + 2) ≤ 1000000 := of_decide_eq_true (by assumption); omega) ((Up.refl _).drew.trans hu).size) (fun v23 => ?_)
  simp only [Act.put, nm1, nm2, nm3, i64_w]
  refine wpK_same rfl (by kernel_rfl) rfl v19 rfl (fun w1 hu => ?_) ?_
  · clear hu
    go_simp
    first | done | rfl
  simp only [Act.put, nm1, nm2, nm3, i64_w]
  refine wpK_same rfl (by kernel_rfl) rfl v23 rfl (fun w1 hu => ?_) ?_
  · clear hu
    go_simp
    first | done | rfl
  simp only [Act.put, nm1, nm2, nm3, i64_w]
  refine wpK_nil ?_
  intro w24 hu hap
  simp only [List.drop_succ_cons, List.drop_zero]
  replace hu := (Up.refl _).drew.trans hu
  obtain ⟨hf0, hn0, ⟨P20, q21, e0, hr22⟩, hf1, hn1, ⟨P16, q17, e1, hr18⟩, -⟩ := hap
  have hn25 := Aside0.mk (fun k_ l_ hk hl => hn0 _ (.head _) rfl rfl k_ l_ (by rw [e0]; exact hk) (by rw [e1]; exact hl) : ∀ k_ l_, blk (.slice P20 ((repl ((wrap64 (a1 + 2)).toNat) (0 : Int)).length) q21) = some k_ → blk (.slice P16 ((repl ((wrap64 (a1 + 2)).toNat) (0 : Int)).length) q17) = some l_ → k_ ≠ l_)
  dsimp only at e0 e1
  subst e0 e1
  clear hf0 hn0 hf1 hn1
  have hu26 := Aside0.mk hu
  clear hu
  refine wpList_nil ?_
  (try simp only [Exit.then, Exit.inBlock, ↓reduceIte, Nat.reduceEqDiff])
  refine hK13 _ _ ?_
  refine wp_seq_k (fun K27 hK27 => ?_)
  refine wp_region_lit ?_
  refine wpp fun K_ h_ => ?_; go_simp; refine h_ _ _ ?_; clear h_ K_
  refine step_index eI (T := 2) (wanted_none rfl) rfl (by kernel_rfl) (by kernel_rfl) rfl rfl rfl hr22.rd A29.out ?_
  intro ad30 hat he
  have he31 := Aside0.mk he
  have hat32 := Aside0.mk hat
  clear he hat
  simp only [Act.put, nm1, nm2, nm3, i64_w]
  have hO0 := Aside0.mk hr22
  have lb37 := Aside0.mk hO0.out.lt
  refine step_put eI (T := 2) (u := .int .i64 1) (old := t28) (new := 1) 0 rfl rfl rfl hat32.out (addr_add0 _).symm rfl rfl (by kernel_rfl) (by simp [Value.cells, Value.oneCell']) (Nat.le_of_ble_eq_true rfl) rfl hO0.out A29.out ?_
  intro w33 h35 hg
  have hg36 := Aside0.mk hg
  clear hO0 hg
  try simp only [Act.put, nm1, nm2, nm3, i64_w]
  have h38 := hr18.grow hg36.out hn25.out
  have hl39 : Aside0 ((repl ((wrap64 (a1 + 2)).toNat) (0 : Int)).length = ((repl ((wrap64 (a1 + 2)).toNat) (0 : Int)).set (1 : Int).toNat 1).length) := Aside0.mk (List.length_set ..).symm
  refine wpList_nil ?_
  (try simp only [Exit.then, Exit.inBlock, ↓reduceIte, Nat.reduceEqDiff])
  refine hK27 _ _ ?_
  refine wp_seq_k (fun K40 hK40 => ?_)
  refine wp_seq_k (fun K41 hK41 => ?_)
  refine wp_region_lit ?_
  have cl0 := (hb2.up ((hu10.out.trans hu26.out).grow hg36.out (fun k hk => Nat.le_trans (hu10.out.size) ((fun k hk => (lb37.out k hk).1) k hk)))).cell (o := 0) rfl
  refine wpp fun K_ h_ => ?_; go_simp; refine h_ _ _ ?_; clear h_ K_
  clear cl0
  refine wpp fun K_ h_ => ?_; go_simp; refine h_ _ _ ?_; clear h_ K_
  refine wpList_nil ?_
  (try simp only [Exit.then, Exit.inBlock, ↓reduceIte, Nat.reduceEqDiff])
  refine hK41 _ _ ?_
  have hm43 := Aside0.mk (((hu4.out.trans hu10.out).trans hu26.out).grow hg36.out (fun k hk => Nat.le_trans ((Nat.le_trans (hu4.out.size) hu10.out.size)) ((fun k hk => (lb37.out k hk).1) k hk)))
  have hm44 := Aside0.mk (Nat.le_trans ((Nat.le_trans ((Nat.le_trans (hu4.out.size) hu10.out.size)) hu26.out.size)) hg36.out.size)
  have h45 := (hb2.up ((hu10.out.trans hu26.out).grow hg36.out (fun k hk => Nat.le_trans (hu10.out.size) ((fun k hk => (lb37.out k hk).1) k hk))))
  by_cases c42 : (a1 == 0) = true
  ·
   rw [if_pos c42] at H
   have c42n : (a1 != 0) = false := by rw [bne, c42]; rfl
   replace H := Option.bind_eq_some_iff.mp H
   obtain ⟨t47, A48, H⟩ := H
   replace A48 := Aside0.mk A48
   try dsimp only at H
   simp only [Option.some.injEq, Prod.mk.injEq] at H
   obtain ⟨rfl, rfl⟩ := H
   try simp only [c42, c42n, Bool.not_true, Bool.not_false]
   refine wp_cond_true rfl ?_
   refine wp_seq_k (fun K46 hK46 => ?_)
   refine wp_region_lit ?_
   refine wpp fun K_ h_ => ?_; go_simp; refine h_ _ _ ?_; clear h_ K_
   have hO0 := Aside0.mk h38
   refine step_cut_hm 1 (T := 2) (i := 1) (xs := (repl ((wrap64 (a1 + 2)).toNat) (0 : Int))) (ys := t47) (wanted_none rfl) rfl (by kernel_rfl) (by kernel_rfl) rfl rfl rfl hO0.out.cap A48.out ?_
   have h49 := hO0.out.cutHm A48.out
   clear hO0
   simp only [Act.put, nm1, nm2, nm3, i64_w]
   refine wpp fun K_ h_ => ?_; go_simp; refine h_ _ _ ?_; clear h_ K_
   refine wpp fun K_ h_ => ?_; go_simp; refine h_ _ _ ?_; clear h_ K_
   refine wpList_nil ?_
   (try simp only [Exit.then, Exit.inBlock, ↓reduceIte, Nat.reduceEqDiff])
   refine hK46 _ _ ?_
   refine wp_ret ?_
   (try simp only [Exit.then, Exit.inBlock, ↓reduceIte, Nat.reduceEqDiff])
   refine hQf _ _ _ ?_
   exact bodyPost_ret (v := .tuple #[.slice P16 t47.length t47.length, .int .i64 0]) (by first | rfl | (simp [results, Try.results27, go_sem]; done) | (simp [results, Try.results27, go_sem]; rfl)) rfl ⟨P16, t47.length, rfl, (h49.lower ((Nat.le_trans (hu4.out.size) hu10.out.size))), hm43.out⟩
  rw [if_neg c42] at H; replace c42 := Bool.eq_false_iff.mpr c42
  have c42n : (a1 != 0) = true := by rw [bne, c42]; rfl
  have c42p : ¬ a1 = 0 := fun e => by simp [e] at c42
  try simp only [c42, c42n, Bool.not_true, Bool.not_false]
  refine wp_cond_false rfl ?_
  refine wp_skip ?_
  (try simp only [Exit.then, Exit.inBlock, ↓reduceIte, Nat.reduceEqDiff])
  refine hK40 _ _ ?_
  refine wp_seq_k (fun K50 hK50 => ?_)
  refine wp_seq_k (fun K51 hK51 => ?_)
  refine wp_region_lit ?_
  refine wpp fun K_ h_ => ?_; go_simp; refine h_ _ _ ?_; clear h_ K_
  refine wpList_nil ?_
  (try simp only [Exit.then, Exit.inBlock, ↓reduceIte, Nat.reduceEqDiff])
  refine hK51 _ _ ?_
  refine wp_block ?_
  have HL62 := Aside0.mk H
  clear H
  go_loopg [9, 7, 8] K (fun kq v9 v7 v8 w' => ∃ (x52 : Int) (x53 : List (Int)) (P54 : Option Addr) (q55 : Nat) (x56 : List (Int)) (P57 : Option Addr) (q58 : Nat), v9 = .int .i64 x52 ∧ v7 = .slice P54 x53.length q55 ∧ v8 = .slice P57 x56.length q58 ∧ Aside0 (impl_CoefficientsOf.l0 K a0 a1 kq x52 x53 x56 = some (r0, r1)) ∧ Aside0 (kq ≤ K) ∧ Aside0 (Up w9 w') ∧ Aside0 (w33.heap.size ≤ w'.heap.size) ∧ Own eI 2 w' w9.heap.size (.slice P54 x53.length q55) x53 ∧ Own eI 2 w' w9.heap.size (.slice P57 x56.length q58) x56 ∧ Aside0 (∀ k, blk (.slice P54 x53.length q55) = some k → k ≠ b2) ∧ Aside0 (∀ k l, blk (.slice P54 x53.length q55) = some k → blk (.slice P57 x56.length q58) = some l → k ≠ l) ∧ Aside0 (∀ k, blk (.slice P57 x56.length q58) = some k → k ≠ b2))
  case atStart => exact ⟨1, (repl ((wrap64 (a1 + 2)).toNat) (0 : Int)), P16, q17, ((repl ((wrap64 (a1 + 2)).toNat) (0 : Int)).set (1 : Int).toNat 1), P20, q21, (by first | rfl | simp), (by first | rfl | simp), (congrArg (fun n_ => Value.slice _ n_ _) hl39.out), HL62, ⟨Nat.le_refl _⟩, ⟨(hu26.out.grow hg36.out (fun k hk => Nat.le_trans (Nat.le_refl _) ((fun k hk => (lb37.out k hk).1) k hk)))⟩, ⟨Nat.le_refl _⟩, h38, h35, ⟨(fun k hk => Ne.symm ((fun k hk => Nat.ne_of_lt (Nat.lt_of_lt_of_le (Nat.lt_of_lt_of_le ltb2.out (hu10.out.size)) ((fun k hk => Nat.le_trans (Nat.le_refl _) (hr18.lt k hk).1) k hk))) k hk))⟩, ⟨(fun k l hk hl => Ne.symm ((fun k l hk hl => hn25.out k l (blk_eq.symm.trans hk) hl) l k hl hk))⟩, ⟨(fun k hk => (fun k hk => Ne.symm ((fun k hk => Nat.ne_of_lt (Nat.lt_of_lt_of_le (Nat.lt_of_lt_of_le ltb2.out (hu10.out.size)) ((fun k hk => Nat.le_trans (Nat.le_refl _) (hr22.lt k hk).1) k hk))) k hk)) k (blk_eq.symm.trans hk))⟩⟩
  case round =>
   rename_i J71 K72 hJ71 hK72
   obtain ⟨x52, x53, P54, q55, x56, P57, q58, rfl, rfl, rfl, HL70, hk69, hu60, hz61, h63, h64, hn65, hn66, hn67⟩ := hrel
   obtain ⟨w59, rfl⟩ : ∃ wo : World, wo = wr := ⟨_, rfl⟩
   obtain ⟨k68, rfl⟩ | rfl : (∃ k, gk = k + 1) ∨ gk = 0 := by rcases gk with _ | k; exact .inr rfl; exact .inl ⟨k, rfl⟩
   case inr => exact absurd HL70.out (by simp [impl_CoefficientsOf.l0])
   have H := HL70.out
   clear HL70
   rw [impl_CoefficientsOf.l0] at H
   refine wp_seq_k (fun K73 hK73 => ?_)
   refine wp_seq_k (fun K74 hK74 => ?_)
   refine wp_region_lit ?_
   refine wpp fun K_ h_ => ?_; go_simp; refine h_ _ _ ?_; clear h_ K_
   have cl0 := (hb2.up (hu10.out.trans hu60.out)).cell (o := 0) rfl
   refine wpp fun K_ h_ => ?_; go_simp; refine h_ _ _ ?_; clear h_ K_
   clear cl0
   refine wpp fun K_ h_ => ?_; go_simp; refine h_ _ _ ?_; clear h_ K_
   refine wpList_nil ?_
   (try simp only [Exit.then, Exit.inBlock, ↓reduceIte, Nat.reduceEqDiff])
   refine hK74 _ _ ?_
   by_cases c75 : (decide (x52 < a1)) = true
   rotate_left
   ·
    rw [if_neg c75] at H; replace c75 := Bool.eq_false_iff.mpr c75
    replace H := Option.bind_eq_some_iff.mp H
    obtain ⟨t306, A307, H⟩ := H
    replace A307 := Aside0.mk A307
    try dsimp only at H
    try simp only [c75, Bool.not_true, Bool.not_false]
    refine wp_cond_false rfl ?_
    refine wp_exit ?_
    (try simp only [Exit.then, Exit.inBlock, ↓reduceIte, Nat.reduceEqDiff])
    refine hK50 _ _ ?_
    refine wp_seq_k (fun K302 hK302 => ?_)
    refine wp_region_lit ?_
    refine step_new (cs := []) (T := 2) (f := fun b => .slice (some ⟨b, 0, none⟩) 0 0) rfl (by go_simp <;> rfl) ?_
    intro b303 w304 hu lb hb303
    simp only [Act.put, nm1, nm2, nm3, i64_w]
    have lbb303 := Aside0.mk lb
    have ltb303 := Aside0.mk hb303.lt
    clear lb
    have hu305 := Aside0.mk hu
    clear hu
    refine wpp fun K_ h_ => ?_; go_simp; refine h_ _ _ ?_; clear h_ K_
    have cl0 := (hb2.up ((hu10.out.trans hu60.out).trans hu305.out)).cell (o := 0) rfl
    refine wpp fun K_ h_ => ?_; go_simp; refine h_ _ _ ?_; clear h_ K_
    clear cl0
    refine wpp fun K_ h_ => ?_; go_simp; refine h_ _ _ ?_; clear h_ K_
    have hO0 := Aside0.mk (h64.up hu305.out)
    refine step_cut_hi 1 (T := 2) (i := wrap64 (a1 + 1)) (xs := x56) (ys := t306) (wanted_none rfl) rfl (by kernel_rfl) (by kernel_rfl) rfl rfl hO0.out.cap A307.out ?_
    have h308 := hO0.out.cutHi A307.out
    clear hO0
    simp only [Act.put, nm1, nm2, nm3, i64_w]
    have hm310 := Aside0.mk (Nat.le_trans ((Nat.le_trans ((Nat.le_trans (hu26.out.size) hg36.out.size)) hz61.out)) hu305.out.size)
    by_cases c309 : (decide (t306.length ≤ 1000000)) = true
    rotate_left
    ·
     rw [if_neg c309] at H; replace c309 := Bool.eq_false_iff.mpr c309
     exact absurd H (by simp)
    rw [if_pos c309] at H
    simp only [Option.some.injEq, Prod.mk.injEq] at H
    obtain ⟨rfl, rfl⟩ := H
    try simp only [c309, Bool.not_true, Bool.not_false]
    have h312 : Own eI 2 w304 w59.heap.size (.slice (some ⟨b303, 0, none⟩) ([].length) 0) [] := Own.of_blk hb303 lbb303.out rfl (by simp) (by simp [Enc.flat, eI])
    have hO0 := Aside0.mk h312
    refine step_append eI (z := .int .i64 0) (bytes := 8) (base := w59.heap.size) (xs := ([] : List (Int))) (ys := t306) (wanted_none rfl) _ _ rfl rfl (by kernel_rfl) rfl (by decide) rfl rfl rfl hO0.out h308.rd (hu305.out.size) (by have h0_ := (of_decide_eq_true (by assumption) : t306.length ≤ 1000000); (try simp only [List.length_cons, List.length_nil]); omega) ?_
    intro P313 q314 w315 h317 hg hat
    have hg318 := Aside0.mk hg
    have hat319 := Aside0.mk hat
    simp only [Act.put, nm1, nm2, nm3, i64_w]
    have lb320 := Aside0.mk hO0.out.lt
    clear hO0 hg hat
    have h321 := h308.grow hg318.out (fun k l hk hl => Ne.symm ((fun k l hk hl => (fun k l hk hl => Nat.ne_of_lt (Nat.lt_of_lt_of_le ((fun k hk => Nat.lt_of_lt_of_le (h64.lt k hk).2 (Nat.le_refl _)) k hk) ((fun k hk => Nat.le_trans (Nat.le_refl _) (h312.lt k hk).1) l hl))) k l (blk_eq.symm.trans hk) hl) l k hl hk))
    refine wpp fun K_ h_ => ?_; go_simp; refine h_ _ _ ?_; clear h_ K_
    refine wpp fun K_ h_ => ?_; go_simp; refine h_ _ _ ?_; clear h_ K_
    refine wpList_nil ?_
    (try simp only [Exit.then, Exit.inBlock, ↓reduceIte, Nat.reduceEqDiff])
    refine hK302 _ _ ?_
    refine wp_ret ?_
    (try simp only [Exit.then, Exit.inBlock, ↓reduceIte, Nat.reduceEqDiff])
    refine hQf _ _ _ ?_
    exact bodyPost_ret (v := .tuple #[.slice P313 ((([] : List (Int)) ++ t306).length) q314, .int .i64 0]) (by first | rfl | (simp [results, Try.results27, go_sem]; done) | (simp [results, Try.results27, go_sem]; rfl)) rfl ⟨P313, q314, rfl, (h317.lower ((Nat.le_trans (hm44.out) hz61.out))), ((((hu4.out.trans hu10.out).trans hu60.out).trans hu305.out).grow hg318.out (fun k hk => Nat.le_trans ((Nat.le_trans (hm44.out) hz61.out)) ((fun k hk => (lb320.out k hk).1) k hk)))⟩
   rw [if_pos c75] at H
   try simp only [c75, Bool.not_true, Bool.not_false]
   refine wp_cond_true rfl ?_
   refine wp_skip ?_
   (try simp only [Exit.then, Exit.inBlock, ↓reduceIte, Nat.reduceEqDiff])
   refine hK73 _ _ ?_
   refine wp_seq_k (fun K76 hK76 => ?_)
   refine wp_block ?_
   refine wp_seq_k (fun K77 hK77 => ?_)
   refine wp_region_lit ?_
   have cl0 := (hb2.up (hu10.out.trans hu60.out)).cell (o := 0) rfl
   refine wpp fun K_ h_ => ?_; go_simp; refine h_ _ _ ?_; clear h_ K_
   clear cl0
   refine wpp fun K_ h_ => ?_; go_simp; refine h_ _ _ ?_; clear h_ K_
   refine step_make eI (z := .int .i64 0) (bytes := 8) (n := wrap64 (a1 + 2)) (z0 := 0) (wanted_none rfl) _ _ rfl rfl rfl rfl (by kernel_rfl) rfl (by decide) (of_decide_eq_true (by assumption)) (by have h1_ : wrap64 (a1 + 2) ≤ 1000000 := of_decide_eq_true (by assumption); omega) ?_
   intro P78 q79 w80 h82 hu
   simp only [Act.put, nm1, nm2, nm3, i64_w]
   have hu83 := Aside0.mk hu
   clear hu
   refine wpp fun K_ h_ => ?_; go_simp; refine h_ _ _ ?_; clear h_ K_
   refine wpList_nil ?_
   (try simp only [Exit.then, Exit.inBlock, ↓reduceIte, Nat.reduceEqDiff])
   refine hK77 _ _ ?_
   refine wp_seq_k (fun K84 hK84 => ?_)
   refine wp_seq_k (fun K85 hK85 => ?_)
   refine wp_region_lit ?_
   refine wpp fun K_ h_ => ?_; go_simp; refine h_ _ _ ?_; clear h_ K_
   refine wpp fun K_ h_ => ?_; go_simp; refine h_ _ _ ?_; clear h_ K_
   refine wpp fun K_ h_ => ?_; go_simp; refine h_ _ _ ?_; clear h_ K_
   refine wpList_nil ?_
   (try simp only [Exit.then, Exit.inBlock, ↓reduceIte, Nat.reduceEqDiff])
   refine hK85 _ _ ?_
   refine wp_block ?_
   have HL91 := Aside0.mk H
   clear H
   go_loopg [40] k68 (fun kq v40 w' => ∃ (x86 : Int) (x87 : List (Int)), v40 = .int .i64 x86 ∧ Aside0 (impl_CoefficientsOf.l1 K a0 a1 x52 x53 x56 kq x86 x87 = some (r0, r1)) ∧ Aside0 (kq ≤ k68) ∧ Aside0 (Up w59 w') ∧ Aside0 (w80.heap.size ≤ w'.heap.size) ∧ Own eI 2 w' w59.heap.size (.slice P78 x87.length q79) x87 ∧ Aside0 ((repl ((wrap64 (a1 + 2)).toNat) (0 : Int)).length = x87.length) ∧ Aside0 (∀ k, blk (.slice P78 x87.length q79) = some k → k ≠ b2) ∧ Aside0 (∀ k l, blk (.slice P78 x87.length q79) = some k → blk (.slice P54 x53.length q55) = some l → k ≠ l) ∧ Aside0 (∀ k l, blk (.slice P78 x87.length q79) = some k → blk (.slice P57 x56.length q58) = some l → k ≠ l))
   case atStart => exact ⟨0, (repl ((wrap64 (a1 + 2)).toNat) (0 : Int)), (by first | rfl | simp), HL91, ⟨Nat.le_refl _⟩, ⟨hu83.out⟩, ⟨Nat.le_refl _⟩, h82, ⟨rfl⟩, ⟨(fun k hk => Ne.symm ((fun k hk => Nat.ne_of_lt (Nat.lt_of_lt_of_le (Nat.lt_of_lt_of_le ltb2.out ((Nat.le_trans ((Nat.le_trans ((Nat.le_trans (hu10.out.size) hu26.out.size)) hg36.out.size)) hz61.out))) ((fun k hk => Nat.le_trans (Nat.le_refl _) (h82.lt k hk).1) k hk))) k hk))⟩, ⟨(fun k l hk hl => Ne.symm ((fun k l hk hl => Nat.ne_of_lt (Nat.lt_of_lt_of_le ((fun k hk => Nat.lt_of_lt_of_le (h63.lt k hk).2 (Nat.le_refl _)) k hk) ((fun k hk => Nat.le_trans (Nat.le_refl _) (h82.lt k hk).1) l hl))) l k hl hk))⟩, ⟨(fun k l hk hl => Ne.symm ((fun k l hk hl => Nat.ne_of_lt (Nat.lt_of_lt_of_le ((fun k hk => Nat.lt_of_lt_of_le (h64.lt k hk).2 (Nat.le_refl _)) k hk) ((fun k hk => Nat.le_trans (Nat.le_refl _) (h82.lt k hk).1) l hl))) l k hl hk))⟩⟩
   case round =>
    rename_i J100 K101 hJ100 hK101
    obtain ⟨x86, x87, rfl, HL99, hk98, hu89, hz90, h92, hl93, hn94, hn95, hn96⟩ := hrel
    obtain ⟨w88, rfl⟩ : ∃ wo : World, wo = wr := ⟨_, rfl⟩
    obtain ⟨k97, rfl⟩ | rfl : (∃ k, gk = k + 1) ∨ gk = 0 := by rcases gk with _ | k; exact .inr rfl; exact .inl ⟨k, rfl⟩
    case inr => exact absurd HL99.out (by simp [impl_CoefficientsOf.l1])
    have H := HL99.out
    clear HL99
    rw [impl_CoefficientsOf.l1] at H
    refine wp_seq_k (fun K102 hK102 => ?_)
    refine wp_region_lit ?_
    refine wpp fun K_ h_ => ?_; go_simp; refine h_ _ _ ?_; clear h_ K_
    refine wpList_nil ?_
    (try simp only [Exit.then, Exit.inBlock, ↓reduceIte, Nat.reduceEqDiff])
    refine hK102 _ _ ?_
    refine wp_seq_k (fun K103 hK103 => ?_)
    have hm105 := Aside0.mk (Nat.le_trans ((Nat.le_trans ((Nat.le_trans (hm44.out) hz61.out)) hu83.out.size)) hz90.out)
    by_cases c104 : (decide (x86 < ((repl ((wrap64 (a1 + 2)).toNat) (0 : Int)).length : Int))) = true
    rotate_left
    ·
     rw [if_neg c104] at H; replace c104 := Bool.eq_false_iff.mpr c104
     have HL301 := Aside0.mk H
     clear H
     try simp only [c104, Bool.not_true, Bool.not_false]
     refine wp_cond_false rfl ?_
     refine wp_exit ?_
     (try simp only [Exit.then, Exit.inBlock, ↓reduceIte, Nat.reduceEqDiff])
     refine hK84 _ _ ?_
     refine wp_region_lit ?_
     refine wpp fun K_ h_ => ?_; go_simp; refine h_ _ _ ?_; clear h_ K_
     refine wpp fun K_ h_ => ?_; go_simp; refine h_ _ _ ?_; clear h_ K_
     refine wpp fun K_ h_ => ?_; go_simp; refine h_ _ _ ?_; clear h_ K_
     refine wpp fun K_ h_ => ?_; go_simp; refine h_ _ _ ?_; clear h_ K_
     refine wpList_nil ?_
     (try simp only [Exit.then, Exit.inBlock, ↓reduceIte, Nat.reduceEqDiff])
     refine hK76 _ _ ?_
     refine wp_region_lit ?_
     refine wpp fun K_ h_ => ?_; go_simp; refine h_ _ _ ?_; clear h_ K_
     refine wpp fun K_ h_ => ?_; go_simp; refine h_ _ _ ?_; clear h_ K_
     refine wpp fun K_ h_ => ?_; go_simp; refine h_ _ _ ?_; clear h_ K_
     refine wpList_nil ?_
     (try simp only [Exit.then, Exit.inBlock, ↓reduceIte, Nat.reduceEqDiff])
     refine hK72 _ _ ?_
     go_roundg k97
     case measure => have := hk69.out; have := hk98.out; omega
     case rel => exact ⟨wrap64 (x52 + 1), x56, P57, q58, x87, P78, q79, (by first | rfl | simp), (by first | rfl | simp), (congrArg (fun n_ => Value.slice _ n_ _) hl93.out), HL301, ⟨by have := hk69.out; have := hk98.out; omega⟩, ⟨(hu60.out.trans hu89.out)⟩, ⟨(Nat.le_trans ((Nat.le_trans ((Nat.le_trans (Nat.le_refl _) hz61.out)) hu83.out.size)) hz90.out)⟩, (h64.up hu89.out), (h92.lower ((Nat.le_trans ((Nat.le_trans (hu26.out.size) hg36.out.size)) hz61.out))), ⟨hn67.out⟩, ⟨(fun k l hk hl => Ne.symm (hn96.out l k hl hk))⟩, ⟨hn94.out⟩⟩
    rw [if_pos c104] at H
    replace H := Option.bind_eq_some_iff.mp H
    obtain ⟨t109, A110, H⟩ := H
    replace A110 := Aside0.mk A110
    try dsimp only at H
    replace H := Option.bind_eq_some_iff.mp H
    obtain ⟨t115, A116, H⟩ := H
    replace A116 := Aside0.mk A116
    try dsimp only at H
    replace H := Option.bind_eq_some_iff.mp H
    obtain ⟨t121, A122, H⟩ := H
    replace A122 := Aside0.mk A122
    try dsimp only at H
    try simp only [c104, Bool.not_true, Bool.not_false]
    refine wp_cond_true rfl ?_
    refine wp_skip ?_
    (try simp only [Exit.then, Exit.inBlock, ↓reduceIte, Nat.reduceEqDiff])
    refine hK103 _ _ ?_
    refine wp_seq_k (fun K106 hK106 => ?_)
    refine wp_block ?_
    refine wp_seq_k (fun K107 hK107 => ?_)
    refine wp_region_lit ?_
    refine wpp fun K_ h_ => ?_; go_simp; refine h_ _ _ ?_; clear h_ K_
    refine wpp fun K_ h_ => ?_; go_simp; refine h_ _ _ ?_; clear h_ K_
    refine wpList_nil ?_
    (try simp only [Exit.then, Exit.inBlock, ↓reduceIte, Nat.reduceEqDiff])
    refine hK107 _ _ ?_
    refine wp_seq_k (fun K108 hK108 => ?_)
    obtain ⟨ad111, hat, he⟩ := rd_at ((h64.up hu89.out).rd) A110.out
    have he112 := Aside0.mk he
    have hat114 := Aside0.mk hat
    clear he hat
    obtain ⟨ad117, hat, he⟩ := rd_at ((h63.up hu89.out).rd) A116.out
    have he118 := Aside0.mk he
    have hat120 := Aside0.mk hat
    clear he hat
    obtain ⟨ad123, hat, he⟩ := rd_at h92.rd A122.out
    have he124 := Aside0.mk he
    have hat126 := Aside0.mk hat
    clear he hat
    refine' wp_region_up 13 [Slot.det _, Slot.det _, Slot.det _, Slot.det _, Slot.det (.pointer (some ad111)), Slot.det _, Slot.det _, Slot.det _, Slot.det _, Slot.det (.pointer (some ad117)), Slot.det _, Slot.det _, Slot.det (.pointer (some ad123))] (by kernel_rfl) (by kernel_rfl) ?main
    case main =>
     simp only [List.take_succ_cons, List.take_zero]
     refine wpK_ops rfl (fun w1 hu => ?_) ?_
     · clear hu
       go_simp
       first | done | rfl
     simp only [Act.put, nm1, nm2, nm3, i64_w]
     refine wpK_ops rfl (fun w1 hu => ?_) ?_
     · clear hu
       go_simp
       first | done | rfl
     simp only [Act.put, nm1, nm2, nm3, i64_w]
     refine wpK_ops rfl (fun w1 hu => ?_) ?_
     · clear hu
       go_simp
       first | done | rfl
     simp only [Act.put, nm1, nm2, nm3, i64_w]
     refine wpK_ops rfl (fun w1 hu => ?_) ?_
     · clear hu
       go_simp
       first | done | rfl
     simp only [Act.put, nm1, nm2, nm3, i64_w]
     refine wpK_ops rfl (fun w1 hu => ?_) ?_
     · exact quiet_index eI (T := 2) rfl (by kernel_rfl) (by kernel_rfl) rfl rfl rfl hat114.out A110.out
     simp only [Act.put, nm1, nm2, nm3, i64_w]
     refine wpK_ops rfl (fun w1 hu => ?_) ?_
     · have cl0 := he112.out 0 _ rfl
       rw [addr_add0] at cl0
       replace cl0 := (((Up.refl _).drew.trans hu)).kept cl0
       go_simp
       first | done | rfl
     simp only [Act.put, nm1, nm2, nm3, i64_w]
     refine wpK_ops rfl (fun w1 hu => ?_) ?_
     · clear hu
       go_simp
       first | done | rfl
     simp only [Act.put, nm1, nm2, nm3, i64_w]
     refine wpK_ops rfl (fun w1 hu => ?_) ?_
     · clear hu
       go_simp
       first | done | rfl
     simp only [Act.put, nm1, nm2, nm3, i64_w]
     refine wpK_ops rfl (fun w1 hu => ?_) ?_
     · clear hu
       go_simp
       first | done | rfl
     simp only [Act.put, nm1, nm2, nm3, i64_w]
     refine wpK_ops rfl (fun w1 hu => ?_) ?_
     · exact quiet_index eI (T := 2) rfl (by kernel_rfl) (by kernel_rfl) rfl rfl rfl hat120.out A116.out
     simp only [Act.put, nm1, nm2, nm3, i64_w]
     refine wpK_ops rfl (fun w1 hu => ?_) ?_
     · have cl0 := he118.out 0 _ rfl
       rw [addr_add0] at cl0
       replace cl0 := (((Up.refl _).drew.trans hu)).kept cl0
       go_simp
       first | done | rfl
     simp only [Act.put, nm1, nm2, nm3, i64_w]
     refine wpK_ops rfl (fun w1 hu => ?_) ?_
     · clear hu
       go_simp
       first | done | rfl
     simp only [Act.put, nm1, nm2, nm3, i64_w]
     refine wpK_ops rfl (fun w1 hu => ?_) ?_
     · exact quiet_index eI (T := 2) rfl (by kernel_rfl) (by kernel_rfl) rfl hl93.out rfl hat126.out A122.out
     simp only [Act.put, nm1, nm2, nm3, i64_w]
     refine wpK_nil ?_
     intro w127 hu hap
     simp only [List.drop_succ_cons, List.drop_zero]
     replace hu := (Up.refl _).drew.trans hu
     clear hap
     have hu128 := Aside0.mk hu
     clear hu
     have hO0 := Aside0.mk (h92.up hu128.out)
     have lb133 := Aside0.mk hO0.out.lt
     refine step_put eI (T := 2) (u := .int .i64 (wrap64 ((wrap64 (2 * t109)) - t115))) (old := t121) (new := wrap64 ((wrap64 (2 * t109)) - t115)) 0 rfl rfl rfl hat126.out (addr_add0 _).symm rfl rfl (by kernel_rfl) (by simp [Value.cells, Value.oneCell']) (Nat.le_of_ble_eq_true rfl) rfl hO0.out A122.out ?_
     intro w129 h131 hg
     have hg132 := Aside0.mk hg
     clear hO0 hg
     try simp only [Act.put, nm1, nm2, nm3, i64_w]
     have hl134 : Aside0 ((repl ((wrap64 (a1 + 2)).toNat) (0 : Int)).length = (x87.set (x86).toNat (wrap64 ((wrap64 (2 * t109)) - t115))).length) := Aside0.mk (hl93.out.trans (List.length_set ..).symm)
     refine wpList_nil ?_
     (try simp only [Exit.then, Exit.inBlock, ↓reduceIte, Nat.reduceEqDiff])
     refine hK108 _ _ ?_
     refine wp_seq_k (fun K135 hK135 => ?_)
     refine wp_seq_k (fun K136 hK136 => ?_)
     refine wp_region_lit ?_
     refine wpp fun K_ h_ => ?_; go_simp; refine h_ _ _ ?_; clear h_ K_
     refine wpp fun K_ h_ => ?_; go_simp; refine h_ _ _ ?_; clear h_ K_
     refine wpList_nil ?_
     (try simp only [Exit.then, Exit.inBlock, ↓reduceIte, Nat.reduceEqDiff])
     refine hK136 _ _ ?_
     have hm138 := Aside0.mk (((((hu4.out.trans hu10.out).trans hu60.out).trans hu89.out).trans hu128.out).grow hg132.out (fun k hk => Nat.le_trans ((Nat.le_trans (hm44.out) hz61.out)) ((fun k hk => (lb133.out k hk).1) k hk)))
     have hm139 := Aside0.mk ((hu89.out.trans hu128.out).grow hg132.out (fun k hk => Nat.le_trans (Nat.le_refl _) ((fun k hk => (lb133.out k hk).1) k hk)))
     have hm140 := Aside0.mk (Nat.le_trans ((Nat.le_trans ((Nat.le_trans (hu83.out.size) hz90.out)) hu128.out.size)) hg132.out.size)
     have hm141 := Aside0.mk (Nat.le_trans ((Nat.le_trans ((Nat.le_trans (Nat.le_refl _) hz90.out)) hu128.out.size)) hg132.out.size)
     have h142 := (hb2.up ((((hu10.out.trans hu60.out).trans hu89.out).trans hu128.out).grow hg132.out (fun k hk => Nat.le_trans ((Nat.le_trans ((Nat.le_trans ((Nat.le_trans (hu10.out.size) hu26.out.size)) hg36.out.size)) hz61.out)) ((fun k hk => (lb133.out k hk).1) k hk))))
     by_cases c137 : (decide (0 < x86)) = true
     rotate_left
     ·
      rw [if_neg c137] at H; replace c137 := Bool.eq_false_iff.mpr c137
      try simp only [c137, Bool.not_true, Bool.not_false]
      refine wp_cond_false rfl ?_
      refine wp_skip ?_
      (try simp only [Exit.then, Exit.inBlock, ↓reduceIte, Nat.reduceEqDiff])
      refine hK135 _ _ ?_
      refine wp_seq_k (fun K237 hK237 => ?_)
      refine wp_seq_k (fun K238 hK238 => ?_)
      refine wp_region_lit ?_
      refine wpp fun K_ h_ => ?_; go_simp; refine h_ _ _ ?_; clear h_ K_
      refine wpp fun K_ h_ => ?_; go_simp; refine h_ _ _ ?_; clear h_ K_
      refine wpList_nil ?_
      (try simp only [Exit.then, Exit.inBlock, ↓reduceIte, Nat.reduceEqDiff])
      refine hK238 _ _ ?_
      by_cases c239 : (x86 == 1) = true
      rotate_left
      ·
       rw [if_neg c239] at H; replace c239 := Bool.eq_false_iff.mpr c239
       have c239n : (x86 != 1) = true := by rw [bne, c239]; rfl
       have c239p : ¬ x86 = 1 := fun e => by simp [e] at c239
       replace H := Option.bind_eq_some_iff.mp H
       obtain ⟨t279, A280, H⟩ := H
       replace A280 := Aside0.mk A280
       try dsimp only at H
       replace H := Option.bind_eq_some_iff.mp H
       obtain ⟨t284, A285, H⟩ := H
       replace A285 := Aside0.mk A285
       try dsimp only at H
       replace H := Option.bind_eq_some_iff.mp H
       obtain ⟨t288, A289, H⟩ := H
       replace A289 := Aside0.mk A289
       try dsimp only at H
       have HL300 := Aside0.mk H
       clear H
       try simp only [c239, c239n, Bool.not_true, Bool.not_false]
       refine wp_cond_false rfl ?_
       refine wp_skip ?_
       (try simp only [Exit.then, Exit.inBlock, ↓reduceIte, Nat.reduceEqDiff])
       refine hK237 _ _ ?_
       refine wp_region_lit ?_
       refine wpp fun K_ h_ => ?_; go_simp; refine h_ _ _ ?_; clear h_ K_
       refine wpp fun K_ h_ => ?_; go_simp; refine h_ _ _ ?_; clear h_ K_
       refine wpp fun K_ h_ => ?_; go_simp; refine h_ _ _ ?_; clear h_ K_
       refine wpp fun K_ h_ => ?_; go_simp; refine h_ _ _ ?_; clear h_ K_
       refine wpp fun K_ h_ => ?_; go_simp; refine h_ _ _ ?_; clear h_ K_
       refine step_index eI (T := 2) (wanted_none rfl) rfl (by kernel_rfl) (by kernel_rfl) rfl hl134.out rfl h131.rd A280.out ?_
       intro ad281 hat he
       have he282 := Aside0.mk he
       have hat283 := Aside0.mk hat
       clear he hat
       simp only [Act.put, nm1, nm2, nm3, i64_w]
       have cl0 := he282.out 0 _ rfl
       rw [addr_add0] at cl0
       refine wpp fun K_ h_ => ?_; go_simp; refine h_ _ _ ?_; clear h_ K_
       clear cl0
       refine step_call (wanted_none rfl) (by go_simp <;> rfl) (impl_rest.calls K a0 t279 t284 w129  A285.out) ?_
       rintro e w286 ⟨rfl, hu⟩
       have hu287 := Aside0.mk hu
       clear hu
       refine ⟨_, rfl, ?_⟩
       simp only [Act.put, nm1, nm2, nm3, i64_w]
       refine step_index eI (T := 2) (wanted_none rfl) rfl (by kernel_rfl) (by kernel_rfl) rfl hl134.out rfl (h131.up hu287.out).rd A289.out ?_
       intro ad290 hat he
       have he291 := Aside0.mk he
       have hat292 := Aside0.mk hat
       clear he hat
       simp only [Act.put, nm1, nm2, nm3, i64_w]
       have hO0 := Aside0.mk (h131.up hu287.out)
       have lb297 := Aside0.mk hO0.out.lt
       refine step_put eI (T := 2) (u := .int .i64 t284) (old := t288) (new := t284) 0 rfl rfl rfl hat292.out (addr_add0 _).symm rfl rfl (by kernel_rfl) (by simp [Value.cells, Value.oneCell']) (Nat.le_of_ble_eq_true rfl) rfl hO0.out A289.out ?_
       intro w293 h295 hg
       have hg296 := Aside0.mk hg
       clear hO0 hg
       try simp only [Act.put, nm1, nm2, nm3, i64_w]
       have h298 := (h142.up hu287.out).grow hg296.out (fun k hk => hn94.out k (blk_eq.symm.trans hk))
       have hl299 : Aside0 ((repl ((wrap64 (a1 + 2)).toNat) (0 : Int)).length = ((x87.set (x86).toNat (wrap64 ((wrap64 (2 * t109)) - t115))).set (x86).toNat t284).length) := Aside0.mk (hl134.out.trans (List.length_set ..).symm)
       refine wpList_nil ?_
       (try simp only [Exit.then, Exit.inBlock, ↓reduceIte, Nat.reduceEqDiff])
       refine hK106 _ _ ?_
       refine wp_region_lit ?_
       refine wpp fun K_ h_ => ?_; go_simp; refine h_ _ _ ?_; clear h_ K_
       refine wpp fun K_ h_ => ?_; go_simp; refine h_ _ _ ?_; clear h_ K_
       refine wpList_nil ?_
       (try simp only [Exit.then, Exit.inBlock, ↓reduceIte, Nat.reduceEqDiff])
       refine hK101 _ _ ?_
       go_roundg k97
       case measure => exact Nat.lt_succ_self _
       case rel => exact ⟨wrap64 (x86 + 1), ((x87.set (x86).toNat (wrap64 ((wrap64 (2 * t109)) - t115))).set (x86).toNat t284), (by first | rfl | simp), HL300, ⟨by have := hk69.out; have := hk98.out; omega⟩, ⟨((hm139.out.trans hu287.out).grow hg296.out (fun k hk => Nat.le_trans (Nat.le_refl _) ((fun k hk => (lb297.out k hk).1) k hk)))⟩, ⟨(Nat.le_trans ((Nat.le_trans (hm141.out) hu287.out.size)) hg296.out.size)⟩, h295, ⟨hl299.out⟩, ⟨(fun k hk => hn94.out k (blk_eq.symm.trans hk))⟩, ⟨(fun k l hk hl => hn95.out k l (blk_eq.symm.trans hk) hl)⟩, ⟨(fun k l hk hl => hn96.out k l (blk_eq.symm.trans hk) hl)⟩⟩
      rw [if_pos c239] at H
      have c239n : (x86 != 1) = false := by rw [bne, c239]; rfl
      replace H := Option.bind_eq_some_iff.mp H
      obtain ⟨t240, A241, H⟩ := H
      replace A241 := Aside0.mk A241
      try dsimp only at H
      replace H := Option.bind_eq_some_iff.mp H
      obtain ⟨t245, A246, H⟩ := H
      replace A246 := Aside0.mk A246
      try dsimp only at H
      replace H := Option.bind_eq_some_iff.mp H
      obtain ⟨t257, A258, H⟩ := H
      replace A258 := Aside0.mk A258
      try dsimp only at H
      replace H := Option.bind_eq_some_iff.mp H
      obtain ⟨t262, A263, H⟩ := H
      replace A263 := Aside0.mk A263
      try dsimp only at H
      replace H := Option.bind_eq_some_iff.mp H
      obtain ⟨t266, A267, H⟩ := H
      replace A267 := Aside0.mk A267
      try dsimp only at H
      have HL278 := Aside0.mk H
      clear H
      try simp only [c239, c239n, Bool.not_true, Bool.not_false]
      refine wp_cond_true rfl ?_
      refine wp_region_lit ?_
      refine wpp fun K_ h_ => ?_; go_simp; refine h_ _ _ ?_; clear h_ K_
      refine wpp fun K_ h_ => ?_; go_simp; refine h_ _ _ ?_; clear h_ K_
      refine step_index eI (T := 2) (wanted_none rfl) rfl (by kernel_rfl) (by kernel_rfl) rfl hl134.out rfl h131.rd A241.out ?_
      intro ad242 hat he
      have he243 := Aside0.mk he
      have hat244 := Aside0.mk hat
      clear he hat
      simp only [Act.put, nm1, nm2, nm3, i64_w]
      have cl0 := he243.out 0 _ rfl
      rw [addr_add0] at cl0
      refine wpp fun K_ h_ => ?_; go_simp; refine h_ _ _ ?_; clear h_ K_
      clear cl0
      refine wpp fun K_ h_ => ?_; go_simp; refine h_ _ _ ?_; clear h_ K_
      refine step_index eI (T := 2) (wanted_none rfl) rfl (by kernel_rfl) (by kernel_rfl) rfl hl134.out rfl h131.rd A246.out ?_
      intro ad247 hat he
      have he248 := Aside0.mk he
      have hat249 := Aside0.mk hat
      clear he hat
      simp only [Act.put, nm1, nm2, nm3, i64_w]
      have hO0 := Aside0.mk h131
      have lb254 := Aside0.mk hO0.out.lt
      refine step_put eI (T := 2) (u := .int .i64 (wrap64 (t240 + 2))) (old := t245) (new := wrap64 (t240 + 2)) 0 rfl rfl rfl hat249.out (addr_add0 _).symm rfl rfl (by kernel_rfl) (by simp [Value.cells, Value.oneCell']) (Nat.le_of_ble_eq_true rfl) rfl hO0.out A246.out ?_
      intro w250 h252 hg
      have hg253 := Aside0.mk hg
      clear hO0 hg
      try simp only [Act.put, nm1, nm2, nm3, i64_w]
      have h255 := h142.grow hg253.out (fun k hk => hn94.out k (blk_eq.symm.trans hk))
      have hl256 : Aside0 ((repl ((wrap64 (a1 + 2)).toNat) (0 : Int)).length = ((x87.set (x86).toNat (wrap64 ((wrap64 (2 * t109)) - t115))).set (x86).toNat (wrap64 (t240 + 2))).length) := Aside0.mk (hl134.out.trans (List.length_set ..).symm)
      refine wpList_nil ?_
      (try simp only [Exit.then, Exit.inBlock, ↓reduceIte, Nat.reduceEqDiff])
      refine hK237 _ _ ?_
      refine wp_region_lit ?_
      refine wpp fun K_ h_ => ?_; go_simp; refine h_ _ _ ?_; clear h_ K_
      refine wpp fun K_ h_ => ?_; go_simp; refine h_ _ _ ?_; clear h_ K_
      refine wpp fun K_ h_ => ?_; go_simp; refine h_ _ _ ?_; clear h_ K_
      refine wpp fun K_ h_ => ?_; go_simp; refine h_ _ _ ?_; clear h_ K_
      refine wpp fun K_ h_ => ?_; go_simp; refine h_ _ _ ?_; clear h_ K_
      refine step_index eI (T := 2) (wanted_none rfl) rfl (by kernel_rfl) (by kernel_rfl) rfl hl256.out rfl h252.rd A258.out ?_
      intro ad259 hat he
      have he260 := Aside0.mk he
      have hat261 := Aside0.mk hat
      clear he hat
      simp only [Act.put, nm1, nm2, nm3, i64_w]
      have cl0 := he260.out 0 _ rfl
      rw [addr_add0] at cl0
      refine wpp fun K_ h_ => ?_; go_simp; refine h_ _ _ ?_; clear h_ K_
      clear cl0
      refine step_call (wanted_none rfl) (by go_simp <;> rfl) (impl_rest.calls K a0 t257 t262 w250  A263.out) ?_
      rintro e w264 ⟨rfl, hu⟩
      have hu265 := Aside0.mk hu
      clear hu
      refine ⟨_, rfl, ?_⟩
      simp only [Act.put, nm1, nm2, nm3, i64_w]
      refine step_index eI (T := 2) (wanted_none rfl) rfl (by kernel_rfl) (by kernel_rfl) rfl hl256.out rfl (h252.up hu265.out).rd A267.out ?_
      intro ad268 hat he
      have he269 := Aside0.mk he
      have hat270 := Aside0.mk hat
      clear he hat
      simp only [Act.put, nm1, nm2, nm3, i64_w]
      have hO0 := Aside0.mk (h252.up hu265.out)
      have lb275 := Aside0.mk hO0.out.lt
      refine step_put eI (T := 2) (u := .int .i64 t262) (old := t266) (new := t262) 0 rfl rfl rfl hat270.out (addr_add0 _).symm rfl rfl (by kernel_rfl) (by simp [Value.cells, Value.oneCell']) (Nat.le_of_ble_eq_true rfl) rfl hO0.out A267.out ?_
      intro w271 h273 hg
      have hg274 := Aside0.mk hg
      clear hO0 hg
      try simp only [Act.put, nm1, nm2, nm3, i64_w]
      have h276 := (h255.up hu265.out).grow hg274.out (fun k hk => hn94.out k (blk_eq.symm.trans hk))
      have hl277 : Aside0 ((repl ((wrap64 (a1 + 2)).toNat) (0 : Int)).length = (((x87.set (x86).toNat (wrap64 ((wrap64 (2 * t109)) - t115))).set (x86).toNat (wrap64 (t240 + 2))).set (x86).toNat t262).length) := Aside0.mk (hl256.out.trans (List.length_set ..).symm)
      refine wpList_nil ?_
      (try simp only [Exit.then, Exit.inBlock, ↓reduceIte, Nat.reduceEqDiff])
      refine hK106 _ _ ?_
      refine wp_region_lit ?_
      refine wpp fun K_ h_ => ?_; go_simp; refine h_ _ _ ?_; clear h_ K_
      refine wpp fun K_ h_ => ?_; go_simp; refine h_ _ _ ?_; clear h_ K_
      refine wpList_nil ?_
      (try simp only [Exit.then, Exit.inBlock, ↓reduceIte, Nat.reduceEqDiff])
      refine hK101 _ _ ?_
      go_roundg k97
      case measure => exact Nat.lt_succ_self _
      case rel => exact ⟨wrap64 (x86 + 1), (((x87.set (x86).toNat (wrap64 ((wrap64 (2 * t109)) - t115))).set (x86).toNat (wrap64 (t240 + 2))).set (x86).toNat t262), (by first | rfl | simp), HL278, ⟨by have := hk69.out; have := hk98.out; omega⟩, ⟨(((hm139.out.grow hg253.out (fun k hk => Nat.le_trans (Nat.le_refl _) ((fun k hk => (lb254.out k hk).1) k hk))).trans hu265.out).grow hg274.out (fun k hk => Nat.le_trans (Nat.le_refl _) ((fun k hk => (lb275.out k hk).1) k hk)))⟩, ⟨(Nat.le_trans ((Nat.le_trans ((Nat.le_trans (hm141.out) hg253.out.size)) hu265.out.size)) hg274.out.size)⟩, h273, ⟨hl277.out⟩, ⟨(fun k hk => hn94.out k (blk_eq.symm.trans hk))⟩, ⟨(fun k l hk hl => hn95.out k l (blk_eq.symm.trans hk) hl)⟩, ⟨(fun k l hk hl => hn96.out k l (blk_eq.symm.trans hk) hl)⟩⟩
     rw [if_pos c137] at H
     replace H := Option.bind_eq_some_iff.mp H
     obtain ⟨t143, A144, H⟩ := H
     replace A144 := Aside0.mk A144
     try dsimp only at H
     replace H := Option.bind_eq_some_iff.mp H
     obtain ⟨t149, A150, H⟩ := H
     replace A150 := Aside0.mk A150
     try dsimp only at H
     replace H := Option.bind_eq_some_iff.mp H
     obtain ⟨t155, A156, H⟩ := H
     replace A156 := Aside0.mk A156
     try dsimp only at H
     try simp only [c137, Bool.not_true, Bool.not_false]
     refine wp_cond_true rfl ?_
     obtain ⟨ad145, hat, he⟩ := rd_at h131.rd A144.out
     have he146 := Aside0.mk he
     have hat148 := Aside0.mk hat
     clear he hat
     obtain ⟨ad151, hat, he⟩ := rd_at ((h64.up hm139.out).rd) A150.out
     have he152 := Aside0.mk he
     have hat154 := Aside0.mk hat
     clear he hat
     obtain ⟨ad157, hat, he⟩ := rd_at h131.rd A156.out
     have he158 := Aside0.mk he
     have hat160 := Aside0.mk hat
     clear he hat
     refine' wp_region_up 12 [Slot.det _, Slot.det _, Slot.det (.pointer (some ad145)), Slot.det _, Slot.det _, Slot.det _, Slot.det _, Slot.det (.pointer (some ad151)), Slot.det _, Slot.det _, Slot.det _, Slot.det (.pointer (some ad157))] (by kernel_rfl) (by kernel_rfl) ?main
     case main =>
      simp only [List.take_succ_cons, List.take_zero]
      refine wpK_ops rfl (fun w1 hu => ?_) ?_
      · clear hu
        go_simp
        first | done | rfl
      simp only [Act.put, nm1, nm2, nm3, i64_w]
      refine wpK_ops rfl (fun w1 hu => ?_) ?_
      · clear hu
        go_simp
        first | done | rfl
      simp only [Act.put, nm1, nm2, nm3, i64_w]
      refine wpK_ops rfl (fun w1 hu => ?_) ?_
      · exact quiet_index eI (T := 2) rfl (by kernel_rfl) (by kernel_rfl) rfl hl134.out rfl hat148.out A144.out
      simp only [Act.put, nm1, nm2, nm3, i64_w]
      refine wpK_ops rfl (fun w1 hu => ?_) ?_
      · have cl0 := he146.out 0 _ rfl
        rw [addr_add0] at cl0
        replace cl0 := (((Up.refl _).drew.trans hu)).kept cl0
        go_simp
        first | done | rfl
      simp only [Act.put, nm1, nm2, nm3, i64_w]
      refine wpK_ops rfl (fun w1 hu => ?_) ?_
      · clear hu
        go_simp
        first | done | rfl
      simp only [Act.put, nm1, nm2, nm3, i64_w]
      refine wpK_ops rfl (fun w1 hu => ?_) ?_
      · clear hu
        go_simp
        first | done | rfl
      simp only [Act.put, nm1, nm2, nm3, i64_w]
      refine wpK_ops rfl (fun w1 hu => ?_) ?_
      · clear hu
        go_simp
        first | done | rfl
      simp only [Act.put, nm1, nm2, nm3, i64_w]
      refine wpK_ops rfl (fun w1 hu => ?_) ?_
      · exact quiet_index eI (T := 2) rfl (by kernel_rfl) (by kernel_rfl) rfl rfl rfl hat154.out A150.out
      simp only [Act.put, nm1, nm2, nm3, i64_w]
      refine wpK_ops rfl (fun w1 hu => ?_) ?_
      · have cl0 := he152.out 0 _ rfl
        rw [addr_add0] at cl0
        replace cl0 := (((Up.refl _).drew.trans hu)).kept cl0
        go_simp
        first | done | rfl
      simp only [Act.put, nm1, nm2, nm3, i64_w]
      refine wpK_ops rfl (fun w1 hu => ?_) ?_
      · clear hu
        go_simp
        first | done | rfl
      simp only [Act.put, nm1, nm2, nm3, i64_w]
      refine wpK_ops rfl (fun w1 hu => ?_) ?_
      · clear hu
        go_simp
        first | done | rfl
      simp only [Act.put, nm1, nm2, nm3, i64_w]
      refine wpK_ops rfl (fun w1 hu => ?_) ?_
      · exact quiet_index eI (T := 2) rfl (by kernel_rfl) (by kernel_rfl) rfl hl134.out rfl hat160.out A156.out
      simp only [Act.put, nm1, nm2, nm3, i64_w]
      refine wpK_nil ?_
      intro w161 hu hap
      simp only [List.drop_succ_cons, List.drop_zero]
      replace hu := (Up.refl _).drew.trans hu
      clear hap
      have hu162 := Aside0.mk hu
      clear hu
      have hO0 := Aside0.mk (h131.up hu162.out)
      have lb167 := Aside0.mk hO0.out.lt
      refine step_put eI (T := 2) (u := .int .i64 (wrap64 (t143 - (wrap64 (4 * t149))))) (old := t155) (new := wrap64 (t143 - (wrap64 (4 * t149)))) 0 rfl rfl rfl hat160.out (addr_add0 _).symm rfl rfl (by kernel_rfl) (by simp [Value.cells, Value.oneCell']) (Nat.le_of_ble_eq_true rfl) rfl hO0.out A156.out ?_
      intro w163 h165 hg
      have hg166 := Aside0.mk hg
      clear hO0 hg
      try simp only [Act.put, nm1, nm2, nm3, i64_w]
      have h168 := (h142.up hu162.out).grow hg166.out (fun k hk => hn94.out k (blk_eq.symm.trans hk))
      have hl169 : Aside0 ((repl ((wrap64 (a1 + 2)).toNat) (0 : Int)).length = ((x87.set (x86).toNat (wrap64 ((wrap64 (2 * t109)) - t115))).set (x86).toNat (wrap64 (t143 - (wrap64 (4 * t149))))).length) := Aside0.mk (hl134.out.trans (List.length_set ..).symm)
      refine wpList_nil ?_
      (try simp only [Exit.then, Exit.inBlock, ↓reduceIte, Nat.reduceEqDiff])
      refine hK135 _ _ ?_
      refine wp_seq_k (fun K170 hK170 => ?_)
      refine wp_seq_k (fun K171 hK171 => ?_)
      refine wp_region_lit ?_
      refine wpp fun K_ h_ => ?_; go_simp; refine h_ _ _ ?_; clear h_ K_
      refine wpp fun K_ h_ => ?_; go_simp; refine h_ _ _ ?_; clear h_ K_
      refine wpList_nil ?_
      (try simp only [Exit.then, Exit.inBlock, ↓reduceIte, Nat.reduceEqDiff])
      refine hK171 _ _ ?_
      have hm173 := Aside0.mk ((hm138.out.trans hu162.out).grow hg166.out (fun k hk => Nat.le_trans ((Nat.le_trans (hm44.out) hz61.out)) ((fun k hk => (lb167.out k hk).1) k hk)))
      have hm174 := Aside0.mk (Nat.le_trans ((Nat.le_trans ((Nat.le_trans ((Nat.le_trans (hm105.out) hu128.out.size)) hg132.out.size)) hu162.out.size)) hg166.out.size)
      have hm175 := Aside0.mk ((hm139.out.trans hu162.out).grow hg166.out (fun k hk => Nat.le_trans (Nat.le_refl _) ((fun k hk => (lb167.out k hk).1) k hk)))
      by_cases c172 : (x86 == 1) = true
      rotate_left
      ·
       rw [if_neg c172] at H; replace c172 := Bool.eq_false_iff.mpr c172
       have c172n : (x86 != 1) = true := by rw [bne, c172]; rfl
       have c172p : ¬ x86 = 1 := fun e => by simp [e] at c172
       replace H := Option.bind_eq_some_iff.mp H
       obtain ⟨t215, A216, H⟩ := H
       replace A216 := Aside0.mk A216
       try dsimp only at H
       replace H := Option.bind_eq_some_iff.mp H
       obtain ⟨t220, A221, H⟩ := H
       replace A221 := Aside0.mk A221
       try dsimp only at H
       replace H := Option.bind_eq_some_iff.mp H
       obtain ⟨t224, A225, H⟩ := H
       replace A225 := Aside0.mk A225
       try dsimp only at H
       have HL236 := Aside0.mk H
       clear H
       try simp only [c172, c172n, Bool.not_true, Bool.not_false]
       refine wp_cond_false rfl ?_
       refine wp_skip ?_
       (try simp only [Exit.then, Exit.inBlock, ↓reduceIte, Nat.reduceEqDiff])
       refine hK170 _ _ ?_
       refine wp_region_lit ?_
       refine wpp fun K_ h_ => ?_; go_simp; refine h_ _ _ ?_; clear h_ K_
       refine wpp fun K_ h_ => ?_; go_simp; refine h_ _ _ ?_; clear h_ K_
       refine wpp fun K_ h_ => ?_; go_simp; refine h_ _ _ ?_; clear h_ K_
       refine wpp fun K_ h_ => ?_; go_simp; refine h_ _ _ ?_; clear h_ K_
       refine wpp fun K_ h_ => ?_; go_simp; refine h_ _ _ ?_; clear h_ K_
       refine step_index eI (T := 2) (wanted_none rfl) rfl (by kernel_rfl) (by kernel_rfl) rfl hl169.out rfl h165.rd A216.out ?_
       intro ad217 hat he
       have he218 := Aside0.mk he
       have hat219 := Aside0.mk hat
       clear he hat
       simp only [Act.put, nm1, nm2, nm3, i64_w]
       have cl0 := he218.out 0 _ rfl
       rw [addr_add0] at cl0
       refine wpp fun K_ h_ => ?_; go_simp; refine h_ _ _ ?_; clear h_ K_
       clear cl0
       refine step_call (wanted_none rfl) (by go_simp <;> rfl) (impl_rest.calls K a0 t215 t220 w163  A221.out) ?_
       rintro e w222 ⟨rfl, hu⟩
       have hu223 := Aside0.mk hu
       clear hu
       refine ⟨_, rfl, ?_⟩
       simp only [Act.put, nm1, nm2, nm3, i64_w]
       refine step_index eI (T := 2) (wanted_none rfl) rfl (by kernel_rfl) (by kernel_rfl) rfl hl169.out rfl (h165.up hu223.out).rd A225.out ?_
       intro ad226 hat he
       have he227 := Aside0.mk he
       have hat228 := Aside0.mk hat
       clear he hat
       simp only [Act.put, nm1, nm2, nm3, i64_w]
       have hO0 := Aside0.mk (h165.up hu223.out)
       have lb233 := Aside0.mk hO0.out.lt
       refine step_put eI (T := 2) (u := .int .i64 t220) (old := t224) (new := t220) 0 rfl rfl rfl hat228.out (addr_add0 _).symm rfl rfl (by kernel_rfl) (by simp [Value.cells, Value.oneCell']) (Nat.le_of_ble_eq_true rfl) rfl hO0.out A225.out ?_
       intro w229 h231 hg
       have hg232 := Aside0.mk hg
       clear hO0 hg
       try simp only [Act.put, nm1, nm2, nm3, i64_w]
       have h234 := (h168.up hu223.out).grow hg232.out (fun k hk => hn94.out k (blk_eq.symm.trans hk))
       have hl235 : Aside0 ((repl ((wrap64 (a1 + 2)).toNat) (0 : Int)).length = (((x87.set (x86).toNat (wrap64 ((wrap64 (2 * t109)) - t115))).set (x86).toNat (wrap64 (t143 - (wrap64 (4 * t149))))).set (x86).toNat t220).length) := Aside0.mk (hl169.out.trans (List.length_set ..).symm)
       refine wpList_nil ?_
       (try simp only [Exit.then, Exit.inBlock, ↓reduceIte, Nat.reduceEqDiff])
       refine hK106 _ _ ?_
       refine wp_region_lit ?_
       refine wpp fun K_ h_ => ?_; go_simp; refine h_ _ _ ?_; clear h_ K_
       refine wpp fun K_ h_ => ?_; go_simp; refine h_ _ _ ?_; clear h_ K_
       refine wpList_nil ?_
       (try simp only [Exit.then, Exit.inBlock, ↓reduceIte, Nat.reduceEqDiff])
       refine hK101 _ _ ?_
       go_roundg k97
       case measure => exact Nat.lt_succ_self _
       case rel => exact ⟨wrap64 (x86 + 1), (((x87.set (x86).toNat (wrap64 ((wrap64 (2 * t109)) - t115))).set (x86).toNat (wrap64 (t143 - (wrap64 (4 * t149))))).set (x86).toNat t220), (by first | rfl | simp), HL236, ⟨by have := hk69.out; have := hk98.out; omega⟩, ⟨((hm175.out.trans hu223.out).grow hg232.out (fun k hk => Nat.le_trans (Nat.le_refl _) ((fun k hk => (lb233.out k hk).1) k hk)))⟩, ⟨(Nat.le_trans ((Nat.le_trans ((Nat.le_trans ((Nat.le_trans (hm141.out) hu162.out.size)) hg166.out.size)) hu223.out.size)) hg232.out.size)⟩, h231, ⟨hl235.out⟩, ⟨(fun k hk => hn94.out k (blk_eq.symm.trans hk))⟩, ⟨(fun k l hk hl => hn95.out k l (blk_eq.symm.trans hk) hl)⟩, ⟨(fun k l hk hl => hn96.out k l (blk_eq.symm.trans hk) hl)⟩⟩
      rw [if_pos c172] at H
      have c172n : (x86 != 1) = false := by rw [bne, c172]; rfl
      replace H := Option.bind_eq_some_iff.mp H
      obtain ⟨t176, A177, H⟩ := H
      replace A177 := Aside0.mk A177
      try dsimp only at H
      replace H := Option.bind_eq_some_iff.mp H
      obtain ⟨t181, A182, H⟩ := H
      replace A182 := Aside0.mk A182
      try dsimp only at H
      replace H := Option.bind_eq_some_iff.mp H
      obtain ⟨t193, A194, H⟩ := H
      replace A194 := Aside0.mk A194
      try dsimp only at H
      replace H := Option.bind_eq_some_iff.mp H
      obtain ⟨t198, A199, H⟩ := H
      replace A199 := Aside0.mk A199
      try dsimp only at H
      replace H := Option.bind_eq_some_iff.mp H
      obtain ⟨t202, A203, H⟩ := H
      replace A203 := Aside0.mk A203
      try dsimp only at H
      have HL214 := Aside0.mk H
      clear H
      try simp only [c172, c172n, Bool.not_true, Bool.not_false]
      refine wp_cond_true rfl ?_
      refine wp_region_lit ?_
      refine wpp fun K_ h_ => ?_; go_simp; refine h_ _ _ ?_; clear h_ K_
      refine wpp fun K_ h_ => ?_; go_simp; refine h_ _ _ ?_; clear h_ K_
      refine step_index eI (T := 2) (wanted_none rfl) rfl (by kernel_rfl) (by kernel_rfl) rfl hl169.out rfl h165.rd A177.out ?_
      intro ad178 hat he
      have he179 := Aside0.mk he
      have hat180 := Aside0.mk hat
      clear he hat
      simp only [Act.put, nm1, nm2, nm3, i64_w]
      have cl0 := he179.out 0 _ rfl
      rw [addr_add0] at cl0
      refine wpp fun K_ h_ => ?_; go_simp; refine h_ _ _ ?_; clear h_ K_
      clear cl0
      refine wpp fun K_ h_ => ?_; go_simp; refine h_ _ _ ?_; clear h_ K_
      refine step_index eI (T := 2) (wanted_none rfl) rfl (by kernel_rfl) (by kernel_rfl) rfl hl169.out rfl h165.rd A182.out ?_
      intro ad183 hat he
      have he184 := Aside0.mk he
      have hat185 := Aside0.mk hat
      clear he hat
      simp only [Act.put, nm1, nm2, nm3, i64_w]
      have hO0 := Aside0.mk h165
      have lb190 := Aside0.mk hO0.out.lt
      refine step_put eI (T := 2) (u := .int .i64 (wrap64 (t176 + 2))) (old := t181) (new := wrap64 (t176 + 2)) 0 rfl rfl rfl hat185.out (addr_add0 _).symm rfl rfl (by kernel_rfl) (by simp [Value.cells, Value.oneCell']) (Nat.le_of_ble_eq_true rfl) rfl hO0.out A182.out ?_
      intro w186 h188 hg
      have hg189 := Aside0.mk hg
      clear hO0 hg
      try simp only [Act.put, nm1, nm2, nm3, i64_w]
      have h191 := h168.grow hg189.out (fun k hk => hn94.out k (blk_eq.symm.trans hk))
      have hl192 : Aside0 ((repl ((wrap64 (a1 + 2)).toNat) (0 : Int)).length = (((x87.set (x86).toNat (wrap64 ((wrap64 (2 * t109)) - t115))).set (x86).toNat (wrap64 (t143 - (wrap64 (4 * t149))))).set (x86).toNat (wrap64 (t176 + 2))).length) := Aside0.mk (hl169.out.trans (List.length_set ..).symm)
      refine wpList_nil ?_
      (try simp only [Exit.then, Exit.inBlock, ↓reduceIte, Nat.reduceEqDiff])
      refine hK170 _ _ ?_
      refine wp_region_lit ?_
      refine wpp fun K_ h_ => ?_; go_simp; refine h_ _ _ ?_; clear h_ K_
      refine wpp fun K_ h_ => ?_; go_simp; refine h_ _ _ ?_; clear h_ K_
      refine wpp fun K_ h_ => ?_; go_simp; refine h_ _ _ ?_; clear h_ K_
      refine wpp fun K_ h_ => ?_; go_simp; refine h_ _ _ ?_; clear h_ K_
      refine wpp fun K_ h_ => ?_; go_simp; refine h_ _ _ ?_; clear h_ K_
      refine step_index eI (T := 2) (wanted_none rfl) rfl (by kernel_rfl) (by kernel_rfl) rfl hl192.out rfl h188.rd A194.out ?_
      intro ad195 hat he
      have he196 := Aside0.mk he
      have hat197 := Aside0.mk hat
      clear he hat
      simp only [Act.put, nm1, nm2, nm3, i64_w]
      have cl0 := he196.out 0 _ rfl
      rw [addr_add0] at cl0
      refine wpp fun K_ h_ => ?_; go_simp; refine h_ _ _ ?_; clear h_ K_
      clear cl0
      refine step_call (wanted_none rfl) (by go_simp <;> rfl) (impl_rest.calls K a0 t193 t198 w186  A199.out) ?_
      rintro e w200 ⟨rfl, hu⟩
      have hu201 := Aside0.mk hu
      clear hu
      refine ⟨_, rfl, ?_⟩
      simp only [Act.put, nm1, nm2, nm3, i64_w]
      refine step_index eI (T := 2) (wanted_none rfl) rfl (by kernel_rfl) (by kernel_rfl) rfl hl192.out rfl (h188.up hu201.out).rd A203.out ?_
      intro ad204 hat he
      have he205 := Aside0.mk he
      have hat206 := Aside0.mk hat
      clear he hat
      simp only [Act.put, nm1, nm2, nm3, i64_w]
      have hO0 := Aside0.mk (h188.up hu201.out)
      have lb211 := Aside0.mk hO0.out.lt
      refine step_put eI (T := 2) (u := .int .i64 t198) (old := t202) (new := t198) 0 rfl rfl rfl hat206.out (addr_add0 _).symm rfl rfl (by kernel_rfl) (by simp [Value.cells, Value.oneCell']) (Nat.le_of_ble_eq_true rfl) rfl hO0.out A203.out ?_
      intro w207 h209 hg
      have hg210 := Aside0.mk hg
      clear hO0 hg
      try simp only [Act.put, nm1, nm2, nm3, i64_w]
      have h212 := (h191.up hu201.out).grow hg210.out (fun k hk => hn94.out k (blk_eq.symm.trans hk))
      have hl213 : Aside0 ((repl ((wrap64 (a1 + 2)).toNat) (0 : Int)).length = ((((x87.set (x86).toNat (wrap64 ((wrap64 (2 * t109)) - t115))).set (x86).toNat (wrap64 (t143 - (wrap64 (4 * t149))))).set (x86).toNat (wrap64 (t176 + 2))).set (x86).toNat t198).length) := Aside0.mk (hl192.out.trans (List.length_set ..).symm)
      refine wpList_nil ?_
      (try simp only [Exit.then, Exit.inBlock, ↓reduceIte, Nat.reduceEqDiff])
      refine hK106 _ _ ?_
      refine wp_region_lit ?_
      refine wpp fun K_ h_ => ?_; go_simp; refine h_ _ _ ?_; clear h_ K_
      refine wpp fun K_ h_ => ?_; go_simp; refine h_ _ _ ?_; clear h_ K_
      refine wpList_nil ?_
      (try simp only [Exit.then, Exit.inBlock, ↓reduceIte, Nat.reduceEqDiff])
      refine hK101 _ _ ?_
      go_roundg k97
      case measure => exact Nat.lt_succ_self _
      case rel => exact ⟨wrap64 (x86 + 1), ((((x87.set (x86).toNat (wrap64 ((wrap64 (2 * t109)) - t115))).set (x86).toNat (wrap64 (t143 - (wrap64 (4 * t149))))).set (x86).toNat (wrap64 (t176 + 2))).set (x86).toNat t198), (by first | rfl | simp), HL214, ⟨by have := hk69.out; have := hk98.out; omega⟩, ⟨(((hm175.out.grow hg189.out (fun k hk => Nat.le_trans (Nat.le_refl _) ((fun k hk => (lb190.out k hk).1) k hk))).trans hu201.out).grow hg210.out (fun k hk => Nat.le_trans (Nat.le_refl _) ((fun k hk => (lb211.out k hk).1) k hk)))⟩, ⟨(Nat.le_trans ((Nat.le_trans ((Nat.le_trans ((Nat.le_trans ((Nat.le_trans (hm141.out) hu162.out.size)) hg166.out.size)) hg189.out.size)) hu201.out.size)) hg210.out.size)⟩, h209, ⟨hl213.out⟩, ⟨(fun k hk => hn94.out k (blk_eq.symm.trans hk))⟩, ⟨(fun k l hk hl => hn95.out k l (blk_eq.symm.trans hk) hl)⟩, ⟨(fun k l hk hl => hn96.out k l (blk_eq.symm.trans hk) hl)⟩⟩

set_option maxHeartbeats 40000000 in
set_option maxRecDepth 100000 in
theorem spec_CoefficientsOf.calls (K : Nat) (a0 : Int) (a1 : Int) (r0 : List (Int)) (r1 : Int) (w : World)  (h : spec_CoefficientsOf.f K a0 a1 = some (r0, r1)) :
    Calls Try.prog 28 #[.int .i64 a0, .int .i64 a1] w fun e w' => ∃ (Ar0 : Option Addr) (cr0 : Nat), e = .returned (.tuple #[.slice Ar0 r0.length cr0, .int .i64 r1]) ∧ Own eI 2 w' w.heap.size (.slice Ar0 r0.length cr0) r0 ∧ Up w w' := by
 have H : (((spec_l05Code.f K a0 a1 ([])).bind fun t3 => (if (t3 == 0) = true then (if decide (40 < a1) = true then some ([], 2) else (if decide (0 ≤ (wrap64 (a1 + 2))) = true then (if decide ((wrap64 (a1 + 2)) ≤ 1000000) = true then ((idx (repl ((wrap64 (a1 + 2)).toNat) (0 : Int)) 1).bind fun t33 => (spec_CoefficientsOf.l0 K a0 a1 K a1 (repl ((wrap64 (a1 + 2)).toNat) (0 : Int)) ((repl ((wrap64 (a1 + 2)).toNat) (0 : Int)).set (1 : Int).toNat 1))) else none) else none)) else some ([], t3))) : Option (List (Int) × Int)) = some (r0, r1) := h
 clear h
 replace H := Option.bind_eq_some_iff.mp H
 obtain ⟨t3, A4, H⟩ := H
 replace A4 := Aside0.mk A4
 try dsimp only at H
 go_enter Try.func28, Try.ntmps28
 refine wp_hide (fun Qf hQf => ?_)
 refine wp_seq_k (fun K1 hK1 => ?_)
 refine wp_region_lit ?_
 refine wpp fun K_ h_ => ?_; go_simp; refine h_ _ _ ?_; clear h_ K_
 refine wpp fun K_ h_ => ?_; go_simp; refine h_ _ _ ?_; clear h_ K_
 refine wpList_nil ?_
 (try simp only [Exit.then, Exit.inBlock, ↓reduceIte, Nat.reduceEqDiff])
 refine hK1 _ _ ?_
 refine wp_seq_k (fun K2 hK2 => ?_)
 refine wp_region_lit ?_
 refine wpp fun K_ h_ => ?_; go_simp; refine h_ _ _ ?_; clear h_ K_
 refine wpp fun K_ h_ => ?_; go_simp; refine h_ _ _ ?_; clear h_ K_
 refine step_call (wanted_none rfl) (by go_simp <;> rfl) (spec_l05Code.calls K a0 a1 none 0 ([]) t3 w (Rd.nil) A4.out) ?_
 rintro e w5 ⟨rfl, hu⟩
 have hu6 := Aside0.mk hu
 clear hu
 refine ⟨_, rfl, ?_⟩
 simp only [Act.put, nm1, nm2, nm3, i64_w]
 refine wpp fun K_ h_ => ?_; go_simp; refine h_ _ _ ?_; clear h_ K_
 refine wpList_nil ?_
 (try simp only [Exit.then, Exit.inBlock, ↓reduceIte, Nat.reduceEqDiff])
 refine hK2 _ _ ?_
 refine wp_seq_k (fun K7 hK7 => ?_)
 refine wp_seq_k (fun K8 hK8 => ?_)
 refine wp_region_lit ?_
 refine wpp fun K_ h_ => ?_; go_simp; refine h_ _ _ ?_; clear h_ K_
 refine wpp fun K_ h_ => ?_; go_simp; refine h_ _ _ ?_; clear h_ K_
 refine wpp fun K_ h_ => ?_; go_simp; refine h_ _ _ ?_; clear h_ K_
 by_cases c9 : (t3 == 0) = true
 rotate_left
 ·
  rw [if_neg c9] at H; replace c9 := Bool.eq_false_iff.mpr c9
  have c9n : (t3 != 0) = true := by rw [bne, c9]; rfl
  have c9p : ¬ t3 = 0 := fun e => by simp [e] at c9
  simp only [Option.some.injEq, Prod.mk.injEq] at H
  obtain ⟨rfl, rfl⟩ := H
  try simp only [c9, c9n, Bool.not_true, Bool.not_false]
  refine step_no rfl ?_
  simp only [Act.put, nm1, nm2, nm3, i64_w]
  refine step_no rfl ?_
  simp only [Act.put, nm1, nm2, nm3, i64_w]
  refine wpp fun K_ h_ => ?_; go_simp; refine h_ _ _ ?_; clear h_ K_
  refine wpList_nil ?_
  (try simp only [Exit.then, Exit.inBlock, ↓reduceIte, Nat.reduceEqDiff])
  refine hK8 _ _ ?_
  refine wp_cond_false rfl ?_
  refine wp_skip ?_
  (try simp only [Exit.then, Exit.inBlock, ↓reduceIte, Nat.reduceEqDiff])
  refine hK7 _ _ ?_
  refine wp_seq_k (fun K290 hK290 => ?_)
  refine wp_seq_k (fun K291 hK291 => ?_)
  refine wp_region_lit ?_
  refine wpp fun K_ h_ => ?_; go_simp; refine h_ _ _ ?_; clear h_ K_
  refine wpp fun K_ h_ => ?_; go_simp; refine h_ _ _ ?_; clear h_ K_
  refine wpList_nil ?_
  (try simp only [Exit.then, Exit.inBlock, ↓reduceIte, Nat.reduceEqDiff])
  refine hK291 _ _ ?_
  refine wp_cond_true rfl ?_
  refine wp_seq_k (fun K292 hK292 => ?_)
  refine wp_region_lit ?_
  refine wpp fun K_ h_ => ?_; go_simp; refine h_ _ _ ?_; clear h_ K_
  refine wpp fun K_ h_ => ?_; go_simp; refine h_ _ _ ?_; clear h_ K_
  refine wpp fun K_ h_ => ?_; go_simp; refine h_ _ _ ?_; clear h_ K_
  refine wpList_nil ?_
  (try simp only [Exit.then, Exit.inBlock, ↓reduceIte, Nat.reduceEqDiff])
  refine hK292 _ _ ?_
  refine wp_ret ?_
  have h294 : Own eI 2 w5 w5.heap.size (.slice none ([] : List (Int)).length 0) [] := Own.nil
  (try simp only [Exit.then, Exit.inBlock, ↓reduceIte, Nat.reduceEqDiff])
  refine hQf _ _ _ ?_
  exact bodyPost_ret (v := .tuple #[.slice none 0 0, .int .i64 t3]) (by first | rfl | (simp [results, Try.results28, go_sem]; done) | (simp [results, Try.results28, go_sem]; rfl)) rfl ⟨none, 0, rfl, (h294.lower (hu6.out.size)), hu6.out⟩
 rw [if_pos c9] at H
 have c9n : (t3 != 0) = false := by rw [bne, c9]; rfl
 try simp only [c9, c9n, Bool.not_true, Bool.not_false]
 refine wpList_step fun K_ h_ => ?_; go_simp; refine h_ _ _ ?_; clear h_ K_
 refine wpList_step fun K_ h_ => ?_; go_simp; refine h_ _ _ ?_; clear h_ K_
 refine wpp fun K_ h_ => ?_; go_simp; refine h_ _ _ ?_; clear h_ K_
 refine wpList_nil ?_
 (try simp only [Exit.then, Exit.inBlock, ↓reduceIte, Nat.reduceEqDiff])
 refine hK8 _ _ ?_
 by_cases c10 : (decide (40 < a1)) = true
 ·
  rw [if_pos c10] at H
  simp only [Option.some.injEq, Prod.mk.injEq] at H
  obtain ⟨rfl, rfl⟩ := H
  try simp only [c10, Bool.not_true, Bool.not_false]
  refine wp_cond_true rfl ?_
  refine wp_region_lit ?_
  refine wpp fun K_ h_ => ?_; go_simp; refine h_ _ _ ?_; clear h_ K_
  refine wpList_nil ?_
  (try simp only [Exit.then, Exit.inBlock, ↓reduceIte, Nat.reduceEqDiff])
  refine hK7 _ _ ?_
  refine wp_seq_k (fun K11 hK11 => ?_)
  refine wp_seq_k (fun K12 hK12 => ?_)
  refine wp_region_lit ?_
  refine wpp fun K_ h_ => ?_; go_simp; refine h_ _ _ ?_; clear h_ K_
  refine wpp fun K_ h_ => ?_; go_simp; refine h_ _ _ ?_; clear h_ K_
  refine wpList_nil ?_
  (try simp only [Exit.then, Exit.inBlock, ↓reduceIte, Nat.reduceEqDiff])
  refine hK12 _ _ ?_
  refine wp_cond_true rfl ?_
  refine wp_seq_k (fun K13 hK13 => ?_)
  refine wp_region_lit ?_
  refine wpp fun K_ h_ => ?_; go_simp; refine h_ _ _ ?_; clear h_ K_
  refine wpp fun K_ h_ => ?_; go_simp; refine h_ _ _ ?_; clear h_ K_
  refine wpp fun K_ h_ => ?_; go_simp; refine h_ _ _ ?_; clear h_ K_
  refine wpList_nil ?_
  (try simp only [Exit.then, Exit.inBlock, ↓reduceIte, Nat.reduceEqDiff])
  refine hK13 _ _ ?_
  refine wp_ret ?_
  have h15 : Own eI 2 w5 w5.heap.size (.slice none ([] : List (Int)).length 0) [] := Own.nil
  (try simp only [Exit.then, Exit.inBlock, ↓reduceIte, Nat.reduceEqDiff])
  refine hQf _ _ _ ?_
  exact bodyPost_ret (v := .tuple #[.slice none 0 0, .int .i64 2]) (by first | rfl | (simp [results, Try.results28, go_sem]; done) | (simp [results, Try.results28, go_sem]; rfl)) rfl ⟨none, 0, rfl, (h15.lower (hu6.out.size)), hu6.out⟩
 rw [if_neg c10] at H; replace c10 := Bool.eq_false_iff.mpr c10
 try simp only [c10, Bool.not_true, Bool.not_false]
 refine wp_cond_false rfl ?_
 refine wp_skip ?_
 (try simp only [Exit.then, Exit.inBlock, ↓reduceIte, Nat.reduceEqDiff])
 refine hK7 _ _ ?_
 refine wp_seq_k (fun K16 hK16 => ?_)
 refine wp_seq_k (fun K17 hK17 => ?_)
 refine wp_region_lit ?_
 refine wpp fun K_ h_ => ?_; go_simp; refine h_ _ _ ?_; clear h_ K_
 refine wpp fun K_ h_ => ?_; go_simp; refine h_ _ _ ?_; clear h_ K_
 refine wpList_nil ?_
 (try simp only [Exit.then, Exit.inBlock, ↓reduceIte, Nat.reduceEqDiff])
 refine hK17 _ _ ?_
 refine wp_cond_false rfl ?_
 refine wp_skip ?_
 (try simp only [Exit.then, Exit.inBlock, ↓reduceIte, Nat.reduceEqDiff])
 refine hK16 _ _ ?_
 refine wp_seq_k (fun K18 hK18 => ?_)
 by_cases c19 : (decide (0 ≤ (wrap64 (a1 + 2)))) = true
 rotate_left
 ·
  rw [if_neg c19] at H; replace c19 := Bool.eq_false_iff.mpr c19
  exact absurd H (by simp)
 rw [if_pos c19] at H
 try simp only [c19, Bool.not_true, Bool.not_false]
 by_cases c20 : (decide ((wrap64 (a1 + 2)) ≤ 1000000)) = true
 rotate_left
 ·
  rw [if_neg c20] at H; replace c20 := Bool.eq_false_iff.mpr c20
  exact absurd H (by simp)
 rw [if_pos c20] at H
 replace H := Option.bind_eq_some_iff.mp H
 obtain ⟨t33, A34, H⟩ := H
 replace A34 := Aside0.mk A34
 try dsimp only at H
 try simp only [c20, Bool.not_true, Bool.not_false]
 refine' wp_region_up 8 [Slot.det _, Slot.det _, Slot.any (RowTo eI 2 w5.heap.size (repl ((wrap64 (a1 + 2)).toNat) (0 : Int)) (fun v => v)) true, Slot.det _, Slot.det _, Slot.any (RowTo eI 2 w5.heap.size (repl ((wrap64 (a1 + 2)).toNat) (0 : Int)) (fun v => v)) true, Slot.same 2, Slot.same 5] (by kernel_rfl) (by kernel_rfl) ?main
 case main =>
  simp only [List.take_succ_cons, List.take_zero]
  refine wpK_ops rfl (fun w1 hu => ?_) ?_
  · clear hu
    go_simp
    first | done | rfl
  simp only [Act.put, nm1, nm2, nm3, i64_w]
  refine wpK_ops rfl (fun w1 hu => ?_) ?_
  · clear hu
    go_simp
    first | done | rfl
  simp only [Act.put, nm1, nm2, nm3, i64_w]
  refine wpK_any rfl (stab_row _ _ _ _ _) (fun w1 hu _ => fresh_make eI (z := .int .i64 0) (bytes := 8) (n := wrap64 (a1 + 2)) (z0 := 0) _ _ rfl rfl rfl (by kernel_rfl) (by kernel_rfl) rfl (by decide) (of_decide_eq_true (by assumption)) (by have h1_ : wrap64 (a1 + 2) ≤ 1000000 := of_decide_eq_true (by assumption); omega) (by have h1_ : wrap64 (a1 + 2) ≤ 1000000 := of_decide_eq_true (by assumption); omega) ((Up.refl _).drew.trans hu).size) (fun v24 => ?_)
  simp only [Act.put, nm1, nm2, nm3, i64_w]
  refine wpK_ops rfl (fun w1 hu => ?_) ?_
  · clear hu
    go_simp
    first | done | rfl
  simp only [Act.put, nm1, nm2, nm3, i64_w]
  refine wpK_ops rfl (fun w1 hu => ?_) ?_
  · clear hu
    go_simp
    first | done | rfl
  simp only [Act.put, nm1, nm2, nm3, i64_w]
  refine wpK_any rfl (stab_row _ _ _ _ _) (fun w1 hu _ => fresh_make eI (z := .int .i64 0) (bytes := 8) (n := wrap64 (a1 + 2)) (z0 := 0) _ _ rfl rfl rfl (by kernel_rfl) (by kernel_rfl) rfl (by decide) (of_decide_eq_true (by assumption)) (by have h1_ : wrap64 (a1 + 2) ≤ 1000000 := of_decide_eq_true (by assumption); omega) (by have h1_ : wrap64 (a1 + 2) ≤ 1000000 := of_decide_eq_true (by assumption); omega) ((Up.refl _).drew.trans hu).size) (fun v28 => ?_)
  simp only [Act.put, nm1, nm2, nm3, i64_w]
  refine wpK_same rfl (by kernel_rfl) rfl v24 rfl (fun w1 hu => ?_) ?_
  · clear hu
    go_simp
    first | done | rfl
  simp only [Act.put, nm1, nm2, nm3, i64_w]
  refine wpK_same rfl (by kernel_rfl) rfl v28 rfl (fun w1 hu => ?_) ?_
  · clear hu
    go_simp
    first | done | rfl
  simp only [Act.put, nm1, nm2, nm3, i64_w]
  refine wpK_nil ?_
  intro w29 hu hap
  simp only [List.drop_succ_cons, List.drop_zero]
  replace hu := (Up.refl _).drew.trans hu
  obtain ⟨hf0, hn0, ⟨P25, q26, e0, hr27⟩, hf1, hn1, ⟨P21, q22, e1, hr23⟩, -⟩ := hap
  have hn30 := Aside0.mk (fun k_ l_ hk hl => hn0 _ (.head _) rfl rfl k_ l_ (by rw [e0]; exact hk) (by rw [e1]; exact hl) : ∀ k_ l_, blk (.slice P25 ((repl ((wrap64 (a1 + 2)).toNat) (0 : Int)).length) q26) = some k_ → blk (.slice P21 ((repl ((wrap64 (a1 + 2)).toNat) (0 : Int)).length) q22) = some l_ → k_ ≠ l_)
  dsimp only at e0 e1
  subst e0 e1
  clear hf0 hn0 hf1 hn1
  have hu31 := Aside0.mk hu
  clear hu
  refine wpList_nil ?_
  (try simp only [Exit.then, Exit.inBlock, ↓reduceIte, Nat.reduceEqDiff])
  refine hK18 _ _ ?_
  refine wp_seq_k (fun K32 hK32 => ?_)
  refine wp_region_lit ?_
  refine wpp fun K_ h_ => ?_; go_simp; refine h_ _ _ ?_; clear h_ K_
  refine step_index eI (T := 2) (wanted_none rfl) rfl (by kernel_rfl) (by kernel_rfl) rfl rfl rfl hr27.rd A34.out ?_
  intro ad35 hat he
  have he36 := Aside0.mk he
  have hat37 := Aside0.mk hat
  clear he hat
  simp only [Act.put, nm1, nm2, nm3, i64_w]
  have hO0 := Aside0.mk hr27
  have lb42 := Aside0.mk hO0.out.lt
  refine step_put eI (T := 2) (u := .int .i64 1) (old := t33) (new := 1) 0 rfl rfl rfl hat37.out (addr_add0 _).symm rfl rfl (by kernel_rfl) (by simp [Value.cells, Value.oneCell']) (Nat.le_of_ble_eq_true rfl) rfl hO0.out A34.out ?_
  intro w38 h40 hg
  have hg41 := Aside0.mk hg
  clear hO0 hg
  try simp only [Act.put, nm1, nm2, nm3, i64_w]
  have h43 := hr23.grow hg41.out hn30.out
  have hl44 : Aside0 ((repl ((wrap64 (a1 + 2)).toNat) (0 : Int)).length = ((repl ((wrap64 (a1 + 2)).toNat) (0 : Int)).set (1 : Int).toNat 1).length) := Aside0.mk (List.length_set ..).symm
  refine wpList_nil ?_
  (try simp only [Exit.then, Exit.inBlock, ↓reduceIte, Nat.reduceEqDiff])
  refine hK32 _ _ ?_
  refine wp_seq_k (fun K45 hK45 => ?_)
  refine wp_seq_k (fun K46 hK46 => ?_)
  refine wp_region_lit ?_
  refine wpp fun K_ h_ => ?_; go_simp; refine h_ _ _ ?_; clear h_ K_
  refine wpp fun K_ h_ => ?_; go_simp; refine h_ _ _ ?_; clear h_ K_
  refine wpList_nil ?_
  (try simp only [Exit.then, Exit.inBlock, ↓reduceIte, Nat.reduceEqDiff])
  refine hK46 _ _ ?_
  refine wp_block ?_
  have HL57 := Aside0.mk H
  clear H
  go_loopg [9, 7, 8] K (fun kq v9 v7 v8 w' => ∃ (x47 : Int) (x48 : List (Int)) (P49 : Option Addr) (q50 : Nat) (x51 : List (Int)) (P52 : Option Addr) (q53 : Nat), v9 = .int .i64 x47 ∧ v7 = .slice P49 x48.length q50 ∧ v8 = .slice P52 x51.length q53 ∧ Aside0 (spec_CoefficientsOf.l0 K a0 a1 kq x47 x48 x51 = some (r0, r1)) ∧ Aside0 (kq ≤ K) ∧ Aside0 (Up w5 w') ∧ Aside0 (w38.heap.size ≤ w'.heap.size) ∧ Own eI 2 w' w5.heap.size (.slice P49 x48.length q50) x48 ∧ Own eI 2 w' w5.heap.size (.slice P52 x51.length q53) x51 ∧ Aside0 (∀ k l, blk (.slice P49 x48.length q50) = some k → blk (.slice P52 x51.length q53) = some l → k ≠ l))
  case atStart => exact ⟨a1, (repl ((wrap64 (a1 + 2)).toNat) (0 : Int)), P21, q22, ((repl ((wrap64 (a1 + 2)).toNat) (0 : Int)).set (1 : Int).toNat 1), P25, q26, (by first | rfl | simp), (by first | rfl | simp), (congrArg (fun n_ => Value.slice _ n_ _) hl44.out), HL57, ⟨Nat.le_refl _⟩, ⟨(hu31.out.grow hg41.out (fun k hk => Nat.le_trans (Nat.le_refl _) ((fun k hk => (lb42.out k hk).1) k hk)))⟩, ⟨Nat.le_refl _⟩, h43, h40, ⟨(fun k l hk hl => Ne.symm ((fun k l hk hl => hn30.out k l (blk_eq.symm.trans hk) hl) l k hl hk))⟩⟩
  case round =>
   rename_i J64 K65 hJ64 hK65
   obtain ⟨x47, x48, P49, q50, x51, P52, q53, rfl, rfl, rfl, HL63, hk62, hu55, hz56, h58, h59, hn60⟩ := hrel
   obtain ⟨w54, rfl⟩ : ∃ wo : World, wo = wr := ⟨_, rfl⟩
   obtain ⟨k61, rfl⟩ | rfl : (∃ k, gk = k + 1) ∨ gk = 0 := by rcases gk with _ | k; exact .inr rfl; exact .inl ⟨k, rfl⟩
   case inr => exact absurd HL63.out (by simp [spec_CoefficientsOf.l0])
   have H := HL63.out
   clear HL63
   rw [spec_CoefficientsOf.l0] at H
   refine wp_seq_k (fun K66 hK66 => ?_)
   refine wp_seq_k (fun K67 hK67 => ?_)
   refine wp_region_lit ?_
   refine wpp fun K_ h_ => ?_; go_simp; refine h_ _ _ ?_; clear h_ K_
   refine wpp fun K_ h_ => ?_; go_simp; refine h_ _ _ ?_; clear h_ K_
   refine wpList_nil ?_
   (try simp only [Exit.then, Exit.inBlock, ↓reduceIte, Nat.reduceEqDiff])
   refine hK67 _ _ ?_
   have hm69 := Aside0.mk (Nat.le_trans ((Nat.le_trans ((Nat.le_trans (hu6.out.size) hu31.out.size)) hg41.out.size)) hz56.out)
   by_cases c68 : (decide (0 < x47)) = true
   rotate_left
   ·
    rw [if_neg c68] at H; replace c68 := Bool.eq_false_iff.mpr c68
    replace H := Option.bind_eq_some_iff.mp H
    obtain ⟨t287, A288, H⟩ := H
    replace A288 := Aside0.mk A288
    try dsimp only at H
    simp only [Option.some.injEq, Prod.mk.injEq] at H
    obtain ⟨rfl, rfl⟩ := H
    try simp only [c68, Bool.not_true, Bool.not_false]
    refine wp_cond_false rfl ?_
    refine wp_exit ?_
    (try simp only [Exit.then, Exit.inBlock, ↓reduceIte, Nat.reduceEqDiff])
    refine hK45 _ _ ?_
    refine wp_seq_k (fun K286 hK286 => ?_)
    refine wp_region_lit ?_
    refine wpp fun K_ h_ => ?_; go_simp; refine h_ _ _ ?_; clear h_ K_
    refine wpp fun K_ h_ => ?_; go_simp; refine h_ _ _ ?_; clear h_ K_
    refine wpp fun K_ h_ => ?_; go_simp; refine h_ _ _ ?_; clear h_ K_
    have hO0 := Aside0.mk h58
    refine step_cut_hi 1 (T := 2) (i := wrap64 (a1 + 1)) (xs := x48) (ys := t287) (wanted_none rfl) rfl (by kernel_rfl) (by kernel_rfl) rfl rfl hO0.out.cap A288.out ?_
    have h289 := hO0.out.cutHi A288.out
    clear hO0
    simp only [Act.put, nm1, nm2, nm3, i64_w]
    refine wpp fun K_ h_ => ?_; go_simp; refine h_ _ _ ?_; clear h_ K_
    refine wpp fun K_ h_ => ?_; go_simp; refine h_ _ _ ?_; clear h_ K_
    refine wpList_nil ?_
    (try simp only [Exit.then, Exit.inBlock, ↓reduceIte, Nat.reduceEqDiff])
    refine hK286 _ _ ?_
    refine wp_ret ?_
    (try simp only [Exit.then, Exit.inBlock, ↓reduceIte, Nat.reduceEqDiff])
    refine hQf _ _ _ ?_
    exact bodyPost_ret (v := .tuple #[.slice P49 t287.length q50, .int .i64 0]) (by first | rfl | (simp [results, Try.results28, go_sem]; done) | (simp [results, Try.results28, go_sem]; rfl)) rfl ⟨P49, q50, rfl, (h289.lower (hu6.out.size)), (hu6.out.trans hu55.out)⟩
   rw [if_pos c68] at H
   try simp only [c68, Bool.not_true, Bool.not_false]
   refine wp_cond_true rfl ?_
   refine wp_skip ?_
   (try simp only [Exit.then, Exit.inBlock, ↓reduceIte, Nat.reduceEqDiff])
   refine hK66 _ _ ?_
   refine wp_seq_k (fun K70 hK70 => ?_)
   refine wp_block ?_
   refine wp_seq_k (fun K71 hK71 => ?_)
   refine wp_region_lit ?_
   refine wpp fun K_ h_ => ?_; go_simp; refine h_ _ _ ?_; clear h_ K_
   refine wpp fun K_ h_ => ?_; go_simp; refine h_ _ _ ?_; clear h_ K_
   refine step_make eI (z := .int .i64 0) (bytes := 8) (n := wrap64 (a1 + 2)) (z0 := 0) (wanted_none rfl) _ _ rfl rfl rfl rfl (by kernel_rfl) rfl (by decide) (of_decide_eq_true (by assumption)) (by have h1_ : wrap64 (a1 + 2) ≤ 1000000 := of_decide_eq_true (by assumption); omega) ?_
   intro P72 q73 w74 h76 hu
   simp only [Act.put, nm1, nm2, nm3, i64_w]
   have hu77 := Aside0.mk hu
   clear hu
   refine wpp fun K_ h_ => ?_; go_simp; refine h_ _ _ ?_; clear h_ K_
   refine wpList_nil ?_
   (try simp only [Exit.then, Exit.inBlock, ↓reduceIte, Nat.reduceEqDiff])
   refine hK71 _ _ ?_
   refine wp_seq_k (fun K78 hK78 => ?_)
   refine wp_seq_k (fun K79 hK79 => ?_)
   refine wp_region_lit ?_
   refine wpp fun K_ h_ => ?_; go_simp; refine h_ _ _ ?_; clear h_ K_
   refine wpList_nil ?_
   (try simp only [Exit.then, Exit.inBlock, ↓reduceIte, Nat.reduceEqDiff])
   refine hK79 _ _ ?_
   refine wp_block ?_
   have HL85 := Aside0.mk H
   clear H
   go_loopg [11] k61 (fun kq v11 w' => ∃ (x80 : Int) (x81 : List (Int)), v11 = .int .i64 x80 ∧ Aside0 (spec_CoefficientsOf.l1 K a0 a1 x47 x48 x51 kq x80 x81 = some (r0, r1)) ∧ Aside0 (kq ≤ k61) ∧ Aside0 (Up w54 w') ∧ Aside0 (w74.heap.size ≤ w'.heap.size) ∧ Own eI 2 w' w54.heap.size (.slice P72 x81.length q73) x81 ∧ Aside0 ((repl ((wrap64 (a1 + 2)).toNat) (0 : Int)).length = x81.length) ∧ Aside0 (∀ k l, blk (.slice P72 x81.length q73) = some k → blk (.slice P49 x48.length q50) = some l → k ≠ l) ∧ Aside0 (∀ k l, blk (.slice P72 x81.length q73) = some k → blk (.slice P52 x51.length q53) = some l → k ≠ l))
   case atStart => exact ⟨0, (repl ((wrap64 (a1 + 2)).toNat) (0 : Int)), (by first | rfl | simp), HL85, ⟨Nat.le_refl _⟩, ⟨hu77.out⟩, ⟨Nat.le_refl _⟩, h76, ⟨rfl⟩, ⟨(fun k l hk hl => Ne.symm ((fun k l hk hl => Nat.ne_of_lt (Nat.lt_of_lt_of_le ((fun k hk => Nat.lt_of_lt_of_le (h58.lt k hk).2 (Nat.le_refl _)) k hk) ((fun k hk => Nat.le_trans (Nat.le_refl _) (h76.lt k hk).1) l hl))) l k hl hk))⟩, ⟨(fun k l hk hl => Ne.symm ((fun k l hk hl => Nat.ne_of_lt (Nat.lt_of_lt_of_le ((fun k hk => Nat.lt_of_lt_of_le (h59.lt k hk).2 (Nat.le_refl _)) k hk) ((fun k hk => Nat.le_trans (Nat.le_refl _) (h76.lt k hk).1) l hl))) l k hl hk))⟩⟩
   case round =>
    rename_i J93 K94 hJ93 hK94
    obtain ⟨x80, x81, rfl, HL92, hk91, hu83, hz84, h86, hl87, hn88, hn89⟩ := hrel
    obtain ⟨w82, rfl⟩ : ∃ wo : World, wo = wr := ⟨_, rfl⟩
    obtain ⟨k90, rfl⟩ | rfl : (∃ k, gk = k + 1) ∨ gk = 0 := by rcases gk with _ | k; exact .inr rfl; exact .inl ⟨k, rfl⟩
    case inr => exact absurd HL92.out (by simp [spec_CoefficientsOf.l1])
    have H := HL92.out
    clear HL92
    rw [spec_CoefficientsOf.l1] at H
    refine wp_seq_k (fun K95 hK95 => ?_)
    refine wp_seq_k (fun K96 hK96 => ?_)
    refine wp_region_lit ?_
    refine wpp fun K_ h_ => ?_; go_simp; refine h_ _ _ ?_; clear h_ K_
    refine wpp fun K_ h_ => ?_; go_simp; refine h_ _ _ ?_; clear h_ K_
    refine wpp fun K_ h_ => ?_; go_simp; refine h_ _ _ ?_; clear h_ K_
    refine wpList_nil ?_
    (try simp only [Exit.then, Exit.inBlock, ↓reduceIte, Nat.reduceEqDiff])
    refine hK96 _ _ ?_
    by_cases c97 : (decide (x80 ≤ a1)) = true
    rotate_left
    ·
     rw [if_neg c97] at H; replace c97 := Bool.eq_false_iff.mpr c97
     have HL285 := Aside0.mk H
     clear H
     try simp only [c97, Bool.not_true, Bool.not_false]
     refine wp_cond_false rfl ?_
     refine wp_exit ?_
     (try simp only [Exit.then, Exit.inBlock, ↓reduceIte, Nat.reduceEqDiff])
     refine hK78 _ _ ?_
     refine wp_seq_k (fun K284 hK284 => ?_)
     refine wp_region_lit ?_
     refine wpp fun K_ h_ => ?_; go_simp; refine h_ _ _ ?_; clear h_ K_
     refine wpp fun K_ h_ => ?_; go_simp; refine h_ _ _ ?_; clear h_ K_
     refine wpList_nil ?_
     (try simp only [Exit.then, Exit.inBlock, ↓reduceIte, Nat.reduceEqDiff])
     refine hK284 _ _ ?_
     refine wp_region_lit ?_
     refine wpp fun K_ h_ => ?_; go_simp; refine h_ _ _ ?_; clear h_ K_
     refine wpp fun K_ h_ => ?_; go_simp; refine h_ _ _ ?_; clear h_ K_
     refine wpList_nil ?_
     (try simp only [Exit.then, Exit.inBlock, ↓reduceIte, Nat.reduceEqDiff])
     refine hK70 _ _ ?_
     refine wp_region_lit ?_
     refine wpp fun K_ h_ => ?_; go_simp; refine h_ _ _ ?_; clear h_ K_
     refine wpp fun K_ h_ => ?_; go_simp; refine h_ _ _ ?_; clear h_ K_
     refine wpp fun K_ h_ => ?_; go_simp; refine h_ _ _ ?_; clear h_ K_
     refine wpList_nil ?_
     (try simp only [Exit.then, Exit.inBlock, ↓reduceIte, Nat.reduceEqDiff])
     refine hK65 _ _ ?_
     go_roundg k90
     case measure => have := hk62.out; have := hk91.out; omega
     case rel => exact ⟨wrap64 (x47 - 1), x51, P52, q53, x81, P72, q73, (by first | rfl | simp), (by first | rfl | simp), (congrArg (fun n_ => Value.slice _ n_ _) hl87.out), HL285, ⟨by have := hk62.out; have := hk91.out; omega⟩, ⟨(hu55.out.trans hu83.out)⟩, ⟨(Nat.le_trans ((Nat.le_trans ((Nat.le_trans (Nat.le_refl _) hz56.out)) hu77.out.size)) hz84.out)⟩, (h59.up hu83.out), (h86.lower ((Nat.le_trans ((Nat.le_trans (hu31.out.size) hg41.out.size)) hz56.out))), ⟨(fun k l hk hl => Ne.symm (hn89.out l k hl hk))⟩⟩
    rw [if_pos c97] at H
    replace H := Option.bind_eq_some_iff.mp H
    obtain ⟨t100, A101, H⟩ := H
    replace A101 := Aside0.mk A101
    try dsimp only at H
    replace H := Option.bind_eq_some_iff.mp H
    obtain ⟨t106, A107, H⟩ := H
    replace A107 := Aside0.mk A107
    try dsimp only at H
    replace H := Option.bind_eq_some_iff.mp H
    obtain ⟨t112, A113, H⟩ := H
    replace A113 := Aside0.mk A113
    try dsimp only at H
    try simp only [c97, Bool.not_true, Bool.not_false]
    refine wp_cond_true rfl ?_
    refine wp_skip ?_
    (try simp only [Exit.then, Exit.inBlock, ↓reduceIte, Nat.reduceEqDiff])
    refine hK95 _ _ ?_
    refine wp_seq_k (fun K98 hK98 => ?_)
    refine wp_block ?_
    refine wp_seq_k (fun K99 hK99 => ?_)
    obtain ⟨ad102, hat, he⟩ := rd_at ((h59.up hu83.out).rd) A101.out
    have he103 := Aside0.mk he
    have hat105 := Aside0.mk hat
    clear he hat
    obtain ⟨ad108, hat, he⟩ := rd_at ((h58.up hu83.out).rd) A107.out
    have he109 := Aside0.mk he
    have hat111 := Aside0.mk hat
    clear he hat
    obtain ⟨ad114, hat, he⟩ := rd_at h86.rd A113.out
    have he115 := Aside0.mk he
    have hat117 := Aside0.mk hat
    clear he hat
    refine' wp_region_up 13 [Slot.det _, Slot.det _, Slot.det _, Slot.det _, Slot.det (.pointer (some ad102)), Slot.det _, Slot.det _, Slot.det _, Slot.det _, Slot.det (.pointer (some ad108)), Slot.det _, Slot.det _, Slot.det (.pointer (some ad114))] (by kernel_rfl) (by kernel_rfl) ?main
    case main =>
     simp only [List.take_succ_cons, List.take_zero]
     refine wpK_ops rfl (fun w1 hu => ?_) ?_
     · clear hu
       go_simp
       first | done | rfl
     simp only [Act.put, nm1, nm2, nm3, i64_w]
     refine wpK_ops rfl (fun w1 hu => ?_) ?_
     · clear hu
       go_simp
       first | done | rfl
     simp only [Act.put, nm1, nm2, nm3, i64_w]
     refine wpK_ops rfl (fun w1 hu => ?_) ?_
     · clear hu
       go_simp
       first | done | rfl
     simp only [Act.put, nm1, nm2, nm3, i64_w]
     refine wpK_ops rfl (fun w1 hu => ?_) ?_
     · clear hu
       go_simp
       first | done | rfl
     simp only [Act.put, nm1, nm2, nm3, i64_w]
     refine wpK_ops rfl (fun w1 hu => ?_) ?_
     · exact quiet_index eI (T := 2) rfl (by kernel_rfl) (by kernel_rfl) rfl rfl rfl hat105.out A101.out
     simp only [Act.put, nm1, nm2, nm3, i64_w]
     refine wpK_ops rfl (fun w1 hu => ?_) ?_
     · have cl0 := he103.out 0 _ rfl
       rw [addr_add0] at cl0
       replace cl0 := (((Up.refl _).drew.trans hu)).kept cl0
       go_simp
       first | done | rfl
     simp only [Act.put, nm1, nm2, nm3, i64_w]
     refine wpK_ops rfl (fun w1 hu => ?_) ?_
     · clear hu
       go_simp
       first | done | rfl
     simp only [Act.put, nm1, nm2, nm3, i64_w]
     refine wpK_ops rfl (fun w1 hu => ?_) ?_
     · clear hu
       go_simp
       first | done | rfl
     simp only [Act.put, nm1, nm2, nm3, i64_w]
     refine wpK_ops rfl (fun w1 hu => ?_) ?_
     · clear hu
       go_simp
       first | done | rfl
     simp only [Act.put, nm1, nm2, nm3, i64_w]
     refine wpK_ops rfl (fun w1 hu => ?_) ?_
     · exact quiet_index eI (T := 2) rfl (by kernel_rfl) (by kernel_rfl) rfl rfl rfl hat111.out A107.out
     simp only [Act.put, nm1, nm2, nm3, i64_w]
     refine wpK_ops rfl (fun w1 hu => ?_) ?_
     · have cl0 := he109.out 0 _ rfl
       rw [addr_add0] at cl0
       replace cl0 := (((Up.refl _).drew.trans hu)).kept cl0
       go_simp
       first | done | rfl
     simp only [Act.put, nm1, nm2, nm3, i64_w]
     refine wpK_ops rfl (fun w1 hu => ?_) ?_
     · clear hu
       go_simp
       first | done | rfl
     simp only [Act.put, nm1, nm2, nm3, i64_w]
     refine wpK_ops rfl (fun w1 hu => ?_) ?_
     · exact quiet_index eI (T := 2) rfl (by kernel_rfl) (by kernel_rfl) rfl hl87.out rfl hat117.out A113.out
     simp only [Act.put, nm1, nm2, nm3, i64_w]
     refine wpK_nil ?_
     intro w118 hu hap
     simp only [List.drop_succ_cons, List.drop_zero]
     replace hu := (Up.refl _).drew.trans hu
     clear hap
     have hu119 := Aside0.mk hu
     clear hu
     have hO0 := Aside0.mk (h86.up hu119.out)
     have lb124 := Aside0.mk hO0.out.lt
     refine step_put eI (T := 2) (u := .int .i64 (wrap64 ((wrap64 (2 * t100)) - t106))) (old := t112) (new := wrap64 ((wrap64 (2 * t100)) - t106)) 0 rfl rfl rfl hat117.out (addr_add0 _).symm rfl rfl (by kernel_rfl) (by simp [Value.cells, Value.oneCell']) (Nat.le_of_ble_eq_true rfl) rfl hO0.out A113.out ?_
     intro w120 h122 hg
     have hg123 := Aside0.mk hg
     clear hO0 hg
     try simp only [Act.put, nm1, nm2, nm3, i64_w]
     have hl125 : Aside0 ((repl ((wrap64 (a1 + 2)).toNat) (0 : Int)).length = (x81.set (x80).toNat (wrap64 ((wrap64 (2 * t100)) - t106))).length) := Aside0.mk (hl87.out.trans (List.length_set ..).symm)
     refine wpList_nil ?_
     (try simp only [Exit.then, Exit.inBlock, ↓reduceIte, Nat.reduceEqDiff])
     refine hK99 _ _ ?_
     refine wp_seq_k (fun K126 hK126 => ?_)
     refine wp_seq_k (fun K127 hK127 => ?_)
     refine wp_region_lit ?_
     refine wpp fun K_ h_ => ?_; go_simp; refine h_ _ _ ?_; clear h_ K_
     refine wpp fun K_ h_ => ?_; go_simp; refine h_ _ _ ?_; clear h_ K_
     refine wpList_nil ?_
     (try simp only [Exit.then, Exit.inBlock, ↓reduceIte, Nat.reduceEqDiff])
     refine hK127 _ _ ?_
     have hm129 := Aside0.mk ((((hu6.out.trans hu55.out).trans hu83.out).trans hu119.out).grow hg123.out (fun k hk => Nat.le_trans (hm69.out) ((fun k hk => (lb124.out k hk).1) k hk)))
     have hm130 := Aside0.mk (Nat.le_trans ((Nat.le_trans ((Nat.le_trans ((Nat.le_trans (hm69.out) hu77.out.size)) hz84.out)) hu119.out.size)) hg123.out.size)
     have hm131 := Aside0.mk ((hu83.out.trans hu119.out).grow hg123.out (fun k hk => Nat.le_trans (Nat.le_refl _) ((fun k hk => (lb124.out k hk).1) k hk)))
     have hm132 := Aside0.mk (Nat.le_trans ((Nat.le_trans ((Nat.le_trans (hu77.out.size) hz84.out)) hu119.out.size)) hg123.out.size)
     have hm133 := Aside0.mk (Nat.le_trans ((Nat.le_trans ((Nat.le_trans (Nat.le_refl _) hz84.out)) hu119.out.size)) hg123.out.size)
     by_cases c128 : (decide (0 < x80)) = true
     rotate_left
     ·
      rw [if_neg c128] at H; replace c128 := Bool.eq_false_iff.mpr c128
      try simp only [c128, Bool.not_true, Bool.not_false]
      refine wp_cond_false rfl ?_
      refine wp_skip ?_
      (try simp only [Exit.then, Exit.inBlock, ↓reduceIte, Nat.reduceEqDiff])
      refine hK126 _ _ ?_
      refine wp_seq_k (fun K223 hK223 => ?_)
      refine wp_seq_k (fun K224 hK224 => ?_)
      refine wp_region_lit ?_
      refine wpp fun K_ h_ => ?_; go_simp; refine h_ _ _ ?_; clear h_ K_
      refine wpp fun K_ h_ => ?_; go_simp; refine h_ _ _ ?_; clear h_ K_
      refine wpList_nil ?_
      (try simp only [Exit.then, Exit.inBlock, ↓reduceIte, Nat.reduceEqDiff])
      refine hK224 _ _ ?_
      by_cases c225 : (x80 == 1) = true
      rotate_left
      ·
       rw [if_neg c225] at H; replace c225 := Bool.eq_false_iff.mpr c225
       have c225n : (x80 != 1) = true := by rw [bne, c225]; rfl
       have c225p : ¬ x80 = 1 := fun e => by simp [e] at c225
       replace H := Option.bind_eq_some_iff.mp H
       obtain ⟨t263, A264, H⟩ := H
       replace A264 := Aside0.mk A264
       try dsimp only at H
       replace H := Option.bind_eq_some_iff.mp H
       obtain ⟨t268, A269, H⟩ := H
       replace A269 := Aside0.mk A269
       try dsimp only at H
       replace H := Option.bind_eq_some_iff.mp H
       obtain ⟨t272, A273, H⟩ := H
       replace A273 := Aside0.mk A273
       try dsimp only at H
       have HL283 := Aside0.mk H
       clear H
       try simp only [c225, c225n, Bool.not_true, Bool.not_false]
       refine wp_cond_false rfl ?_
       refine wp_skip ?_
       (try simp only [Exit.then, Exit.inBlock, ↓reduceIte, Nat.reduceEqDiff])
       refine hK223 _ _ ?_
       refine wp_region_lit ?_
       refine wpp fun K_ h_ => ?_; go_simp; refine h_ _ _ ?_; clear h_ K_
       refine wpp fun K_ h_ => ?_; go_simp; refine h_ _ _ ?_; clear h_ K_
       refine wpp fun K_ h_ => ?_; go_simp; refine h_ _ _ ?_; clear h_ K_
       refine wpp fun K_ h_ => ?_; go_simp; refine h_ _ _ ?_; clear h_ K_
       refine step_index eI (T := 2) (wanted_none rfl) rfl (by kernel_rfl) (by kernel_rfl) rfl hl125.out rfl h122.rd A264.out ?_
       intro ad265 hat he
       have he266 := Aside0.mk he
       have hat267 := Aside0.mk hat
       clear he hat
       simp only [Act.put, nm1, nm2, nm3, i64_w]
       have cl0 := he266.out 0 _ rfl
       rw [addr_add0] at cl0
       refine wpp fun K_ h_ => ?_; go_simp; refine h_ _ _ ?_; clear h_ K_
       clear cl0
       refine wpp fun K_ h_ => ?_; go_simp; refine h_ _ _ ?_; clear h_ K_
       refine step_call (wanted_none rfl) (by go_simp <;> rfl) (spec_l01Mod.calls K t263 a0 t268 w120  A269.out) ?_
       rintro e w270 ⟨rfl, hu⟩
       have hu271 := Aside0.mk hu
       clear hu
       refine ⟨_, rfl, ?_⟩
       simp only [Act.put, nm1, nm2, nm3, i64_w]
       refine step_index eI (T := 2) (wanted_none rfl) rfl (by kernel_rfl) (by kernel_rfl) rfl hl125.out rfl (h122.up hu271.out).rd A273.out ?_
       intro ad274 hat he
       have he275 := Aside0.mk he
       have hat276 := Aside0.mk hat
       clear he hat
       simp only [Act.put, nm1, nm2, nm3, i64_w]
       have hO0 := Aside0.mk (h122.up hu271.out)
       have lb281 := Aside0.mk hO0.out.lt
       refine step_put eI (T := 2) (u := .int .i64 t268) (old := t272) (new := t268) 0 rfl rfl rfl hat276.out (addr_add0 _).symm rfl rfl (by kernel_rfl) (by simp [Value.cells, Value.oneCell']) (Nat.le_of_ble_eq_true rfl) rfl hO0.out A273.out ?_
       intro w277 h279 hg
       have hg280 := Aside0.mk hg
       clear hO0 hg
       try simp only [Act.put, nm1, nm2, nm3, i64_w]
       have hl282 : Aside0 ((repl ((wrap64 (a1 + 2)).toNat) (0 : Int)).length = ((x81.set (x80).toNat (wrap64 ((wrap64 (2 * t100)) - t106))).set (x80).toNat t268).length) := Aside0.mk (hl125.out.trans (List.length_set ..).symm)
       refine wpList_nil ?_
       (try simp only [Exit.then, Exit.inBlock, ↓reduceIte, Nat.reduceEqDiff])
       refine hK98 _ _ ?_
       refine wp_region_lit ?_
       refine wpp fun K_ h_ => ?_; go_simp; refine h_ _ _ ?_; clear h_ K_
       refine wpp fun K_ h_ => ?_; go_simp; refine h_ _ _ ?_; clear h_ K_
       refine wpp fun K_ h_ => ?_; go_simp; refine h_ _ _ ?_; clear h_ K_
       refine wpList_nil ?_
       (try simp only [Exit.then, Exit.inBlock, ↓reduceIte, Nat.reduceEqDiff])
       refine hK94 _ _ ?_
       go_roundg k90
       case measure => exact Nat.lt_succ_self _
       case rel => exact ⟨wrap64 (x80 + 1), ((x81.set (x80).toNat (wrap64 ((wrap64 (2 * t100)) - t106))).set (x80).toNat t268), (by first | rfl | simp), HL283, ⟨by have := hk62.out; have := hk91.out; omega⟩, ⟨((hm131.out.trans hu271.out).grow hg280.out (fun k hk => Nat.le_trans (Nat.le_refl _) ((fun k hk => (lb281.out k hk).1) k hk)))⟩, ⟨(Nat.le_trans ((Nat.le_trans (hm133.out) hu271.out.size)) hg280.out.size)⟩, h279, ⟨hl282.out⟩, ⟨(fun k l hk hl => hn88.out k l (blk_eq.symm.trans hk) hl)⟩, ⟨(fun k l hk hl => hn89.out k l (blk_eq.symm.trans hk) hl)⟩⟩
      rw [if_pos c225] at H
      have c225n : (x80 != 1) = false := by rw [bne, c225]; rfl
      replace H := Option.bind_eq_some_iff.mp H
      obtain ⟨t226, A227, H⟩ := H
      replace A227 := Aside0.mk A227
      try dsimp only at H
      replace H := Option.bind_eq_some_iff.mp H
      obtain ⟨t231, A232, H⟩ := H
      replace A232 := Aside0.mk A232
      try dsimp only at H
      replace H := Option.bind_eq_some_iff.mp H
      obtain ⟨t242, A243, H⟩ := H
      replace A243 := Aside0.mk A243
      try dsimp only at H
      replace H := Option.bind_eq_some_iff.mp H
      obtain ⟨t247, A248, H⟩ := H
      replace A248 := Aside0.mk A248
      try dsimp only at H
      replace H := Option.bind_eq_some_iff.mp H
      obtain ⟨t251, A252, H⟩ := H
      replace A252 := Aside0.mk A252
      try dsimp only at H
      have HL262 := Aside0.mk H
      clear H
      try simp only [c225, c225n, Bool.not_true, Bool.not_false]
      refine wp_cond_true rfl ?_
      refine wp_region_lit ?_
      refine wpp fun K_ h_ => ?_; go_simp; refine h_ _ _ ?_; clear h_ K_
      refine wpp fun K_ h_ => ?_; go_simp; refine h_ _ _ ?_; clear h_ K_
      refine wpp fun K_ h_ => ?_; go_simp; refine h_ _ _ ?_; clear h_ K_
      refine wpp fun K_ h_ => ?_; go_simp; refine h_ _ _ ?_; clear h_ K_
      refine step_index eI (T := 2) (wanted_none rfl) rfl (by kernel_rfl) (by kernel_rfl) rfl hl125.out rfl h122.rd A227.out ?_
      intro ad228 hat he
      have he229 := Aside0.mk he
      have hat230 := Aside0.mk hat
      clear he hat
      simp only [Act.put, nm1, nm2, nm3, i64_w]
      have cl0 := he229.out 0 _ rfl
      rw [addr_add0] at cl0
      refine wpp fun K_ h_ => ?_; go_simp; refine h_ _ _ ?_; clear h_ K_
      clear cl0
      refine wpp fun K_ h_ => ?_; go_simp; refine h_ _ _ ?_; clear h_ K_
      refine step_index eI (T := 2) (wanted_none rfl) rfl (by kernel_rfl) (by kernel_rfl) rfl hl125.out rfl h122.rd A232.out ?_
      intro ad233 hat he
      have he234 := Aside0.mk he
      have hat235 := Aside0.mk hat
      clear he hat
      simp only [Act.put, nm1, nm2, nm3, i64_w]
      have hO0 := Aside0.mk h122
      have lb240 := Aside0.mk hO0.out.lt
      refine step_put eI (T := 2) (u := .int .i64 (wrap64 (t226 + 2))) (old := t231) (new := wrap64 (t226 + 2)) 0 rfl rfl rfl hat235.out (addr_add0 _).symm rfl rfl (by kernel_rfl) (by simp [Value.cells, Value.oneCell']) (Nat.le_of_ble_eq_true rfl) rfl hO0.out A232.out ?_
      intro w236 h238 hg
      have hg239 := Aside0.mk hg
      clear hO0 hg
      try simp only [Act.put, nm1, nm2, nm3, i64_w]
      have hl241 : Aside0 ((repl ((wrap64 (a1 + 2)).toNat) (0 : Int)).length = ((x81.set (x80).toNat (wrap64 ((wrap64 (2 * t100)) - t106))).set (x80).toNat (wrap64 (t226 + 2))).length) := Aside0.mk (hl125.out.trans (List.length_set ..).symm)
      refine wpList_nil ?_
      (try simp only [Exit.then, Exit.inBlock, ↓reduceIte, Nat.reduceEqDiff])
      refine hK223 _ _ ?_
      refine wp_region_lit ?_
      refine wpp fun K_ h_ => ?_; go_simp; refine h_ _ _ ?_; clear h_ K_
      refine wpp fun K_ h_ => ?_; go_simp; refine h_ _ _ ?_; clear h_ K_
      refine wpp fun K_ h_ => ?_; go_simp; refine h_ _ _ ?_; clear h_ K_
      refine wpp fun K_ h_ => ?_; go_simp; refine h_ _ _ ?_; clear h_ K_
      refine step_index eI (T := 2) (wanted_none rfl) rfl (by kernel_rfl) (by kernel_rfl) rfl hl241.out rfl h238.rd A243.out ?_
      intro ad244 hat he
      have he245 := Aside0.mk he
      have hat246 := Aside0.mk hat
      clear he hat
      simp only [Act.put, nm1, nm2, nm3, i64_w]
      have cl0 := he245.out 0 _ rfl
      rw [addr_add0] at cl0
      refine wpp fun K_ h_ => ?_; go_simp; refine h_ _ _ ?_; clear h_ K_
      clear cl0
      refine wpp fun K_ h_ => ?_; go_simp; refine h_ _ _ ?_; clear h_ K_
      refine step_call (wanted_none rfl) (by go_simp <;> rfl) (spec_l01Mod.calls K t242 a0 t247 w236  A248.out) ?_
      rintro e w249 ⟨rfl, hu⟩
      have hu250 := Aside0.mk hu
      clear hu
      refine ⟨_, rfl, ?_⟩
      simp only [Act.put, nm1, nm2, nm3, i64_w]
      refine step_index eI (T := 2) (wanted_none rfl) rfl (by kernel_rfl) (by kernel_rfl) rfl hl241.out rfl (h238.up hu250.out).rd A252.out ?_
      intro ad253 hat he
      have he254 := Aside0.mk he
      have hat255 := Aside0.mk hat
      clear he hat
      simp only [Act.put, nm1, nm2, nm3, i64_w]
      have hO0 := Aside0.mk (h238.up hu250.out)
      have lb260 := Aside0.mk hO0.out.lt
      refine step_put eI (T := 2) (u := .int .i64 t247) (old := t251) (new := t247) 0 rfl rfl rfl hat255.out (addr_add0 _).symm rfl rfl (by kernel_rfl) (by simp [Value.cells, Value.oneCell']) (Nat.le_of_ble_eq_true rfl) rfl hO0.out A252.out ?_
      intro w256 h258 hg
      have hg259 := Aside0.mk hg
      clear hO0 hg
      try simp only [Act.put, nm1, nm2, nm3, i64_w]
      have hl261 : Aside0 ((repl ((wrap64 (a1 + 2)).toNat) (0 : Int)).length = (((x81.set (x80).toNat (wrap64 ((wrap64 (2 * t100)) - t106))).set (x80).toNat (wrap64 (t226 + 2))).set (x80).toNat t247).length) := Aside0.mk (hl241.out.trans (List.length_set ..).symm)
      refine wpList_nil ?_
      (try simp only [Exit.then, Exit.inBlock, ↓reduceIte, Nat.reduceEqDiff])
      refine hK98 _ _ ?_
      refine wp_region_lit ?_
      refine wpp fun K_ h_ => ?_; go_simp; refine h_ _ _ ?_; clear h_ K_
      refine wpp fun K_ h_ => ?_; go_simp; refine h_ _ _ ?_; clear h_ K_
      refine wpp fun K_ h_ => ?_; go_simp; refine h_ _ _ ?_; clear h_ K_
      refine wpList_nil ?_
      (try simp only [Exit.then, Exit.inBlock, ↓reduceIte, Nat.reduceEqDiff])
      refine hK94 _ _ ?_
      go_roundg k90
      case measure => exact Nat.lt_succ_self _
      case rel => exact ⟨wrap64 (x80 + 1), (((x81.set (x80).toNat (wrap64 ((wrap64 (2 * t100)) - t106))).set (x80).toNat (wrap64 (t226 + 2))).set (x80).toNat t247), (by first | rfl | simp), HL262, ⟨by have := hk62.out; have := hk91.out; omega⟩, ⟨(((hm131.out.grow hg239.out (fun k hk => Nat.le_trans (Nat.le_refl _) ((fun k hk => (lb240.out k hk).1) k hk))).trans hu250.out).grow hg259.out (fun k hk => Nat.le_trans (Nat.le_refl _) ((fun k hk => (lb260.out k hk).1) k hk)))⟩, ⟨(Nat.le_trans ((Nat.le_trans ((Nat.le_trans (hm133.out) hg239.out.size)) hu250.out.size)) hg259.out.size)⟩, h258, ⟨hl261.out⟩, ⟨(fun k l hk hl => hn88.out k l (blk_eq.symm.trans hk) hl)⟩, ⟨(fun k l hk hl => hn89.out k l (blk_eq.symm.trans hk) hl)⟩⟩
     rw [if_pos c128] at H
     replace H := Option.bind_eq_some_iff.mp H
     obtain ⟨t134, A135, H⟩ := H
     replace A135 := Aside0.mk A135
     try dsimp only at H
     replace H := Option.bind_eq_some_iff.mp H
     obtain ⟨t140, A141, H⟩ := H
     replace A141 := Aside0.mk A141
     try dsimp only at H
     replace H := Option.bind_eq_some_iff.mp H
     obtain ⟨t146, A147, H⟩ := H
     replace A147 := Aside0.mk A147
     try dsimp only at H
     try simp only [c128, Bool.not_true, Bool.not_false]
     refine wp_cond_true rfl ?_
     obtain ⟨ad136, hat, he⟩ := rd_at h122.rd A135.out
     have he137 := Aside0.mk he
     have hat139 := Aside0.mk hat
     clear he hat
     obtain ⟨ad142, hat, he⟩ := rd_at ((h59.up hm131.out).rd) A141.out
     have he143 := Aside0.mk he
     have hat145 := Aside0.mk hat
     clear he hat
     obtain ⟨ad148, hat, he⟩ := rd_at h122.rd A147.out
     have he149 := Aside0.mk he
     have hat151 := Aside0.mk hat
     clear he hat
     refine' wp_region_up 14 [Slot.det _, Slot.det _, Slot.det _, Slot.det _, Slot.det (.pointer (some ad136)), Slot.det _, Slot.det _, Slot.det _, Slot.det _, Slot.det (.pointer (some ad142)), Slot.det _, Slot.det _, Slot.det _, Slot.det (.pointer (some ad148))] (by kernel_rfl) (by kernel_rfl) ?main
     case main =>
      simp only [List.take_succ_cons, List.take_zero]
      refine wpK_ops rfl (fun w1 hu => ?_) ?_
      · clear hu
        go_simp
        first | done | rfl
      simp only [Act.put, nm1, nm2, nm3, i64_w]
      refine wpK_ops rfl (fun w1 hu => ?_) ?_
      · clear hu
        go_simp
        first | done | rfl
      simp only [Act.put, nm1, nm2, nm3, i64_w]
      refine wpK_ops rfl (fun w1 hu => ?_) ?_
      · clear hu
        go_simp
        first | done | rfl
      simp only [Act.put, nm1, nm2, nm3, i64_w]
      refine wpK_ops rfl (fun w1 hu => ?_) ?_
      · clear hu
        go_simp
        first | done | rfl
      simp only [Act.put, nm1, nm2, nm3, i64_w]
      refine wpK_ops rfl (fun w1 hu => ?_) ?_
      · exact quiet_index eI (T := 2) rfl (by kernel_rfl) (by kernel_rfl) rfl hl125.out rfl hat139.out A135.out
      simp only [Act.put, nm1, nm2, nm3, i64_w]
      refine wpK_ops rfl (fun w1 hu => ?_) ?_
      · have cl0 := he137.out 0 _ rfl
        rw [addr_add0] at cl0
        replace cl0 := (((Up.refl _).drew.trans hu)).kept cl0
        go_simp
        first | done | rfl
      simp only [Act.put, nm1, nm2, nm3, i64_w]
      refine wpK_ops rfl (fun w1 hu => ?_) ?_
      · clear hu
        go_simp
        first | done | rfl
      simp only [Act.put, nm1, nm2, nm3, i64_w]
      refine wpK_ops rfl (fun w1 hu => ?_) ?_
      · clear hu
        go_simp
        first | done | rfl
      simp only [Act.put, nm1, nm2, nm3, i64_w]
      refine wpK_ops rfl (fun w1 hu => ?_) ?_
      · clear hu
        go_simp
        first | done | rfl
      simp only [Act.put, nm1, nm2, nm3, i64_w]
      refine wpK_ops rfl (fun w1 hu => ?_) ?_
      · exact quiet_index eI (T := 2) rfl (by kernel_rfl) (by kernel_rfl) rfl rfl rfl hat145.out A141.out
      simp only [Act.put, nm1, nm2, nm3, i64_w]
      refine wpK_ops rfl (fun w1 hu => ?_) ?_
      · have cl0 := he143.out 0 _ rfl
        rw [addr_add0] at cl0
        replace cl0 := (((Up.refl _).drew.trans hu)).kept cl0
        go_simp
        first | done | rfl
      simp only [Act.put, nm1, nm2, nm3, i64_w]
      refine wpK_ops rfl (fun w1 hu => ?_) ?_
      · clear hu
        go_simp
        first | done | rfl
      simp only [Act.put, nm1, nm2, nm3, i64_w]
      refine wpK_ops rfl (fun w1 hu => ?_) ?_
      · clear hu
        go_simp
        first | done | rfl
      simp only [Act.put, nm1, nm2, nm3, i64_w]
      refine wpK_ops rfl (fun w1 hu => ?_) ?_
      · exact quiet_index eI (T := 2) rfl (by kernel_rfl) (by kernel_rfl) rfl hl125.out rfl hat151.out A147.out
      simp only [Act.put, nm1, nm2, nm3, i64_w]
      refine wpK_nil ?_
      intro w152 hu hap
      simp only [List.drop_succ_cons, List.drop_zero]
      replace hu := (Up.refl _).drew.trans hu
      clear hap
      have hu153 := Aside0.mk hu
      clear hu
      have hO0 := Aside0.mk (h122.up hu153.out)
      have lb158 := Aside0.mk hO0.out.lt
      refine step_put eI (T := 2) (u := .int .i64 (wrap64 (t134 - (wrap64 (4 * t140))))) (old := t146) (new := wrap64 (t134 - (wrap64 (4 * t140)))) 0 rfl rfl rfl hat151.out (addr_add0 _).symm rfl rfl (by kernel_rfl) (by simp [Value.cells, Value.oneCell']) (Nat.le_of_ble_eq_true rfl) rfl hO0.out A147.out ?_
      intro w154 h156 hg
      have hg157 := Aside0.mk hg
      clear hO0 hg
      try simp only [Act.put, nm1, nm2, nm3, i64_w]
      have hl159 : Aside0 ((repl ((wrap64 (a1 + 2)).toNat) (0 : Int)).length = ((x81.set (x80).toNat (wrap64 ((wrap64 (2 * t100)) - t106))).set (x80).toNat (wrap64 (t134 - (wrap64 (4 * t140))))).length) := Aside0.mk (hl125.out.trans (List.length_set ..).symm)
      refine wpList_nil ?_
      (try simp only [Exit.then, Exit.inBlock, ↓reduceIte, Nat.reduceEqDiff])
      refine hK126 _ _ ?_
      refine wp_seq_k (fun K160 hK160 => ?_)
      refine wp_seq_k (fun K161 hK161 => ?_)
      refine wp_region_lit ?_
      refine wpp fun K_ h_ => ?_; go_simp; refine h_ _ _ ?_; clear h_ K_
      refine wpp fun K_ h_ => ?_; go_simp; refine h_ _ _ ?_; clear h_ K_
      refine wpList_nil ?_
      (try simp only [Exit.then, Exit.inBlock, ↓reduceIte, Nat.reduceEqDiff])
      refine hK161 _ _ ?_
      have hm163 := Aside0.mk ((hm129.out.trans hu153.out).grow hg157.out (fun k hk => Nat.le_trans (hm69.out) ((fun k hk => (lb158.out k hk).1) k hk)))
      have hm164 := Aside0.mk ((hm131.out.trans hu153.out).grow hg157.out (fun k hk => Nat.le_trans (Nat.le_refl _) ((fun k hk => (lb158.out k hk).1) k hk)))
      by_cases c162 : (x80 == 1) = true
      rotate_left
      ·
       rw [if_neg c162] at H; replace c162 := Bool.eq_false_iff.mpr c162
       have c162n : (x80 != 1) = true := by rw [bne, c162]; rfl
       have c162p : ¬ x80 = 1 := fun e => by simp [e] at c162
       replace H := Option.bind_eq_some_iff.mp H
       obtain ⟨t202, A203, H⟩ := H
       replace A203 := Aside0.mk A203
       try dsimp only at H
       replace H := Option.bind_eq_some_iff.mp H
       obtain ⟨t207, A208, H⟩ := H
       replace A208 := Aside0.mk A208
       try dsimp only at H
       replace H := Option.bind_eq_some_iff.mp H
       obtain ⟨t211, A212, H⟩ := H
       replace A212 := Aside0.mk A212
       try dsimp only at H
       have HL222 := Aside0.mk H
       clear H
       try simp only [c162, c162n, Bool.not_true, Bool.not_false]
       refine wp_cond_false rfl ?_
       refine wp_skip ?_
       (try simp only [Exit.then, Exit.inBlock, ↓reduceIte, Nat.reduceEqDiff])
       refine hK160 _ _ ?_
       refine wp_region_lit ?_
       refine wpp fun K_ h_ => ?_; go_simp; refine h_ _ _ ?_; clear h_ K_
       refine wpp fun K_ h_ => ?_; go_simp; refine h_ _ _ ?_; clear h_ K_
       refine wpp fun K_ h_ => ?_; go_simp; refine h_ _ _ ?_; clear h_ K_
       refine wpp fun K_ h_ => ?_; go_simp; refine h_ _ _ ?_; clear h_ K_
       refine step_index eI (T := 2) (wanted_none rfl) rfl (by kernel_rfl) (by kernel_rfl) rfl hl159.out rfl h156.rd A203.out ?_
       intro ad204 hat he
       have he205 := Aside0.mk he
       have hat206 := Aside0.mk hat
       clear he hat
       simp only [Act.put, nm1, nm2, nm3, i64_w]
       have cl0 := he205.out 0 _ rfl
       rw [addr_add0] at cl0
       refine wpp fun K_ h_ => ?_; go_simp; refine h_ _ _ ?_; clear h_ K_
       clear cl0
       refine wpp fun K_ h_ => ?_; go_simp; refine h_ _ _ ?_; clear h_ K_
       refine step_call (wanted_none rfl) (by go_simp <;> rfl) (spec_l01Mod.calls K t202 a0 t207 w154  A208.out) ?_
       rintro e w209 ⟨rfl, hu⟩
       have hu210 := Aside0.mk hu
       clear hu
       refine ⟨_, rfl, ?_⟩
       simp only [Act.put, nm1, nm2, nm3, i64_w]
       refine step_index eI (T := 2) (wanted_none rfl) rfl (by kernel_rfl) (by kernel_rfl) rfl hl159.out rfl (h156.up hu210.out).rd A212.out ?_
       intro ad213 hat he
       have he214 := Aside0.mk he
       have hat215 := Aside0.mk hat
       clear he hat
       simp only [Act.put, nm1, nm2, nm3, i64_w]
       have hO0 := Aside0.mk (h156.up hu210.out)
       have lb220 := Aside0.mk hO0.out.lt
       refine step_put eI (T := 2) (u := .int .i64 t207) (old := t211) (new := t207) 0 rfl rfl rfl hat215.out (addr_add0 _).symm rfl rfl (by kernel_rfl) (by simp [Value.cells, Value.oneCell']) (Nat.le_of_ble_eq_true rfl) rfl hO0.out A212.out ?_
       intro w216 h218 hg
       have hg219 := Aside0.mk hg
       clear hO0 hg
       try simp only [Act.put, nm1, nm2, nm3, i64_w]
       have hl221 : Aside0 ((repl ((wrap64 (a1 + 2)).toNat) (0 : Int)).length = (((x81.set (x80).toNat (wrap64 ((wrap64 (2 * t100)) - t106))).set (x80).toNat (wrap64 (t134 - (wrap64 (4 * t140))))).set (x80).toNat t207).length) := Aside0.mk (hl159.out.trans (List.length_set ..).symm)
       refine wpList_nil ?_
       (try simp only [Exit.then, Exit.inBlock, ↓reduceIte, Nat.reduceEqDiff])
       refine hK98 _ _ ?_
       refine wp_region_lit ?_
       refine wpp fun K_ h_ => ?_; go_simp; refine h_ _ _ ?_; clear h_ K_
       refine wpp fun K_ h_ => ?_; go_simp; refine h_ _ _ ?_; clear h_ K_
       refine wpp fun K_ h_ => ?_; go_simp; refine h_ _ _ ?_; clear h_ K_
       refine wpList_nil ?_
       (try simp only [Exit.then, Exit.inBlock, ↓reduceIte, Nat.reduceEqDiff])
       refine hK94 _ _ ?_
       go_roundg k90
       case measure => exact Nat.lt_succ_self _
       case rel => exact ⟨wrap64 (x80 + 1), (((x81.set (x80).toNat (wrap64 ((wrap64 (2 * t100)) - t106))).set (x80).toNat (wrap64 (t134 - (wrap64 (4 * t140))))).set (x80).toNat t207), (by first | rfl | simp), HL222, ⟨by have := hk62.out; have := hk91.out; omega⟩, ⟨((hm164.out.trans hu210.out).grow hg219.out (fun k hk => Nat.le_trans (Nat.le_refl _) ((fun k hk => (lb220.out k hk).1) k hk)))⟩, ⟨(Nat.le_trans ((Nat.le_trans ((Nat.le_trans ((Nat.le_trans (hm133.out) hu153.out.size)) hg157.out.size)) hu210.out.size)) hg219.out.size)⟩, h218, ⟨hl221.out⟩, ⟨(fun k l hk hl => hn88.out k l (blk_eq.symm.trans hk) hl)⟩, ⟨(fun k l hk hl => hn89.out k l (blk_eq.symm.trans hk) hl)⟩⟩
      rw [if_pos c162] at H
      have c162n : (x80 != 1) = false := by rw [bne, c162]; rfl
      replace H := Option.bind_eq_some_iff.mp H
      obtain ⟨t165, A166, H⟩ := H
      replace A166 := Aside0.mk A166
      try dsimp only at H
      replace H := Option.bind_eq_some_iff.mp H
      obtain ⟨t170, A171, H⟩ := H
      replace A171 := Aside0.mk A171
      try dsimp only at H
      replace H := Option.bind_eq_some_iff.mp H
      obtain ⟨t181, A182, H⟩ := H
      replace A182 := Aside0.mk A182
      try dsimp only at H
      replace H := Option.bind_eq_some_iff.mp H
      obtain ⟨t186, A187, H⟩ := H
      replace A187 := Aside0.mk A187
      try dsimp only at H
      replace H := Option.bind_eq_some_iff.mp H
      obtain ⟨t190, A191, H⟩ := H
      replace A191 := Aside0.mk A191
      try dsimp only at H
      have HL201 := Aside0.mk H
      clear H
      try simp only [c162, c162n, Bool.not_true, Bool.not_false]
      refine wp_cond_true rfl ?_
      refine wp_region_lit ?_
      refine wpp fun K_ h_ => ?_; go_simp; refine h_ _ _ ?_; clear h_ K_
      refine wpp fun K_ h_ => ?_; go_simp; refine h_ _ _ ?_; clear h_ K_
      refine wpp fun K_ h_ => ?_; go_simp; refine h_ _ _ ?_; clear h_ K_
      refine wpp fun K_ h_ => ?_; go_simp; refine h_ _ _ ?_; clear h_ K_
      refine step_index eI (T := 2) (wanted_none rfl) rfl (by kernel_rfl) (by kernel_rfl) rfl hl159.out rfl h156.rd A166.out ?_
      intro ad167 hat he
      have he168 := Aside0.mk he
      have hat169 := Aside0.mk hat
      clear he hat
      simp only [Act.put, nm1, nm2, nm3, i64_w]
      have cl0 := he168.out 0 _ rfl
      rw [addr_add0] at cl0
      refine wpp fun K_ h_ => ?_; go_simp; refine h_ _ _ ?_; clear h_ K_
      clear cl0
      refine wpp fun K_ h_ => ?_; go_simp; refine h_ _ _ ?_; clear h_ K_
      refine step_index eI (T := 2) (wanted_none rfl) rfl (by kernel_rfl) (by kernel_rfl) rfl hl159.out rfl h156.rd A171.out ?_
      intro ad172 hat he
      have he173 := Aside0.mk he
      have hat174 := Aside0.mk hat
      clear he hat
      simp only [Act.put, nm1, nm2, nm3, i64_w]
      have hO0 := Aside0.mk h156
      have lb179 := Aside0.mk hO0.out.lt
      refine step_put eI (T := 2) (u := .int .i64 (wrap64 (t165 + 2))) (old := t170) (new := wrap64 (t165 + 2)) 0 rfl rfl rfl hat174.out (addr_add0 _).symm rfl rfl (by kernel_rfl) (by simp [Value.cells, Value.oneCell']) (Nat.le_of_ble_eq_true rfl) rfl hO0.out A171.out ?_
      intro w175 h177 hg
      have hg178 := Aside0.mk hg
      clear hO0 hg
      try simp only [Act.put, nm1, nm2, nm3, i64_w]
      have hl180 : Aside0 ((repl ((wrap64 (a1 + 2)).toNat) (0 : Int)).length = (((x81.set (x80).toNat (wrap64 ((wrap64 (2 * t100)) - t106))).set (x80).toNat (wrap64 (t134 - (wrap64 (4 * t140))))).set (x80).toNat (wrap64 (t165 + 2))).length) := Aside0.mk (hl159.out.trans (List.length_set ..).symm)
      refine wpList_nil ?_
      (try simp only [Exit.then, Exit.inBlock, ↓reduceIte, Nat.reduceEqDiff])
      refine hK160 _ _ ?_
      refine wp_region_lit ?_
      refine wpp fun K_ h_ => ?_; go_simp; refine h_ _ _ ?_; clear h_ K_
      refine wpp fun K_ h_ => ?_; go_simp; refine h_ _ _ ?_; clear h_ K_
      refine wpp fun K_ h_ => ?_; go_simp; refine h_ _ _ ?_; clear h_ K_
      refine wpp fun K_ h_ => ?_; go_simp; refine h_ _ _ ?_; clear h_ K_
      refine step_index eI (T := 2) (wanted_none rfl) rfl (by kernel_rfl) (by kernel_rfl) rfl hl180.out rfl h177.rd A182.out ?_
      intro ad183 hat he
      have he184 := Aside0.mk he
      have hat185 := Aside0.mk hat
      clear he hat
      simp only [Act.put, nm1, nm2, nm3, i64_w]
      have cl0 := he184.out 0 _ rfl
      rw [addr_add0] at cl0
      refine wpp fun K_ h_ => ?_; go_simp; refine h_ _ _ ?_; clear h_ K_
      clear cl0
      refine wpp fun K_ h_ => ?_; go_simp; refine h_ _ _ ?_; clear h_ K_
      refine step_call (wanted_none rfl) (by go_simp <;> rfl) (spec_l01Mod.calls K t181 a0 t186 w175  A187.out) ?_
      rintro e w188 ⟨rfl, hu⟩
      have hu189 := Aside0.mk hu
      clear hu
      refine ⟨_, rfl, ?_⟩
      simp only [Act.put, nm1, nm2, nm3, i64_w]
      refine step_index eI (T := 2) (wanted_none rfl) rfl (by kernel_rfl) (by kernel_rfl) rfl hl180.out rfl (h177.up hu189.out).rd A191.out ?_
      intro ad192 hat he
      have he193 := Aside0.mk he
      have hat194 := Aside0.mk hat
      clear he hat
      simp only [Act.put, nm1, nm2, nm3, i64_w]
      have hO0 := Aside0.mk (h177.up hu189.out)
      have lb199 := Aside0.mk hO0.out.lt
      refine step_put eI (T := 2) (u := .int .i64 t186) (old := t190) (new := t186) 0 rfl rfl rfl hat194.out (addr_add0 _).symm rfl rfl (by kernel_rfl) (by simp [Value.cells, Value.oneCell']) (Nat.le_of_ble_eq_true rfl) rfl hO0.out A191.out ?_
      intro w195 h197 hg
      have hg198 := Aside0.mk hg
      clear hO0 hg
      try simp only [Act.put, nm1, nm2, nm3, i64_w]
      have hl200 : Aside0 ((repl ((wrap64 (a1 + 2)).toNat) (0 : Int)).length = ((((x81.set (x80).toNat (wrap64 ((wrap64 (2 * t100)) - t106))).set (x80).toNat (wrap64 (t134 - (wrap64 (4 * t140))))).set (x80).toNat (wrap64 (t165 + 2))).set (x80).toNat t186).length) := Aside0.mk (hl180.out.trans (List.length_set ..).symm)
      refine wpList_nil ?_
      (try simp only [Exit.then, Exit.inBlock, ↓reduceIte, Nat.reduceEqDiff])
      refine hK98 _ _ ?_
      refine wp_region_lit ?_
      refine wpp fun K_ h_ => ?_; go_simp; refine h_ _ _ ?_; clear h_ K_
      refine wpp fun K_ h_ => ?_; go_simp; refine h_ _ _ ?_; clear h_ K_
      refine wpp fun K_ h_ => ?_; go_simp; refine h_ _ _ ?_; clear h_ K_
      refine wpList_nil ?_
      (try simp only [Exit.then, Exit.inBlock, ↓reduceIte, Nat.reduceEqDiff])
      refine hK94 _ _ ?_
      go_roundg k90
      case measure => exact Nat.lt_succ_self _
      case rel => exact ⟨wrap64 (x80 + 1), ((((x81.set (x80).toNat (wrap64 ((wrap64 (2 * t100)) - t106))).set (x80).toNat (wrap64 (t134 - (wrap64 (4 * t140))))).set (x80).toNat (wrap64 (t165 + 2))).set (x80).toNat t186), (by first | rfl | simp), HL201, ⟨by have := hk62.out; have := hk91.out; omega⟩, ⟨(((hm164.out.grow hg178.out (fun k hk => Nat.le_trans (Nat.le_refl _) ((fun k hk => (lb179.out k hk).1) k hk))).trans hu189.out).grow hg198.out (fun k hk => Nat.le_trans (Nat.le_refl _) ((fun k hk => (lb199.out k hk).1) k hk)))⟩, ⟨(Nat.le_trans ((Nat.le_trans ((Nat.le_trans ((Nat.le_trans ((Nat.le_trans (hm133.out) hu153.out.size)) hg157.out.size)) hg178.out.size)) hu189.out.size)) hg198.out.size)⟩, h197, ⟨hl200.out⟩, ⟨(fun k l hk hl => hn88.out k l (blk_eq.symm.trans hk) hl)⟩, ⟨(fun k l hk hl => hn89.out k l (blk_eq.symm.trans hk) hl)⟩⟩

set_option maxHeartbeats 40000000 in
set_option maxRecDepth 100000 in
theorem spec_DrawIsPermutation.calls (K : Nat) (a0_A : Option Addr) (a0_c : Nat) (a0 : List (Int)) (r0 : Int) (r1 : Int) (w : World) (ha0 : Rd eU8 w a0_A a0) (h : spec_DrawIsPermutation.f K a0 = some (r0, r1)) :
    Calls Try.prog 30 #[.slice a0_A a0.length a0_c] w fun e w' => e = .returned (.tuple #[.int .i64 r0, .int .i64 r1]) ∧ Up w w' := by
 have H : (((spec_l05Draw.f K a0).bind fun (t3, t4, t5) => some (t3, t4)) : Option (Int × Int)) = some (r0, r1) := h
 clear h
 replace H := Option.bind_eq_some_iff.mp H
 obtain ⟨⟨t3, t4, t5⟩, A6, H⟩ := H
 replace A6 := Aside0.mk A6
 try dsimp only at H
 simp only [Option.some.injEq, Prod.mk.injEq] at H
 obtain ⟨rfl, rfl⟩ := H
 go_enter Try.func30, Try.ntmps30
 refine wp_hide (fun Qf hQf => ?_)
 refine wp_seq_k (fun K1 hK1 => ?_)
 refine wp_region_lit ?_
 refine wpp fun K_ h_ => ?_; go_simp; refine h_ _ _ ?_; clear h_ K_
 refine wpp fun K_ h_ => ?_; go_simp; refine h_ _ _ ?_; clear h_ K_
 refine wpList_nil ?_
 (try simp only [Exit.then, Exit.inBlock, ↓reduceIte, Nat.reduceEqDiff])
 refine hK1 _ _ ?_
 refine wp_seq_k (fun K2 hK2 => ?_)
 refine wp_region_lit ?_
 refine wpp fun K_ h_ => ?_; go_simp; refine h_ _ _ ?_; clear h_ K_
 refine step_call (wanted_none rfl) (by go_simp <;> rfl) (spec_l05Draw.calls K a0_A a0_c a0 t3 t4 t5 w ha0 A6.out) ?_
 rintro e w7 ⟨rfl, hu⟩
 have hu8 := Aside0.mk hu
 clear hu
 refine ⟨_, rfl, ?_⟩
 simp only [Act.put, nm1, nm2, nm3, i64_w]
 refine wpp fun K_ h_ => ?_; go_simp; refine h_ _ _ ?_; clear h_ K_
 refine wpp fun K_ h_ => ?_; go_simp; refine h_ _ _ ?_; clear h_ K_
 refine wpp fun K_ h_ => ?_; go_simp; refine h_ _ _ ?_; clear h_ K_
 refine wpp fun K_ h_ => ?_; go_simp; refine h_ _ _ ?_; clear h_ K_
 refine wpp fun K_ h_ => ?_; go_simp; refine h_ _ _ ?_; clear h_ K_
 refine wpp fun K_ h_ => ?_; go_simp; refine h_ _ _ ?_; clear h_ K_
 refine wpp fun K_ h_ => ?_; go_simp; refine h_ _ _ ?_; clear h_ K_
 refine wpList_nil ?_
 (try simp only [Exit.then, Exit.inBlock, ↓reduceIte, Nat.reduceEqDiff])
 refine hK2 _ _ ?_
 refine wp_seq_k (fun K9 hK9 => ?_)
 refine wp_region_lit ?_
 refine wpp fun K_ h_ => ?_; go_simp; refine h_ _ _ ?_; clear h_ K_
 refine wpp fun K_ h_ => ?_; go_simp; refine h_ _ _ ?_; clear h_ K_
 refine wpp fun K_ h_ => ?_; go_simp; refine h_ _ _ ?_; clear h_ K_
 refine wpp fun K_ h_ => ?_; go_simp; refine h_ _ _ ?_; clear h_ K_
 refine wpList_nil ?_
 (try simp only [Exit.then, Exit.inBlock, ↓reduceIte, Nat.reduceEqDiff])
 refine hK9 _ _ ?_
 refine wp_ret ?_
 (try simp only [Exit.then, Exit.inBlock, ↓reduceIte, Nat.reduceEqDiff])
 refine hQf _ _ _ ?_
 exact bodyPost_ret (v := .tuple #[.int .i64 t3, .int .i64 t4]) (by first | rfl | (simp [results, Try.results30, go_sem]; done) | (simp [results, Try.results30, go_sem]; rfl)) rfl ⟨rfl, hu8.out⟩

set_option maxHeartbeats 40000000 in
set_option maxRecDepth 100000 in
theorem impl_IsPermutation_1.calls (K : Nat) (bf0 : Nat) (f0_0 : Int) (r0 : Bool) (w : World) (hf0 : Blk w bf0 [.int .i64 f0_0] 2) (h : impl_IsPermutation_1.f K f0_0 = some (r0)) :
    Calls Try.prog 114 #[.pointer (some ⟨bf0, 0, none⟩)] w fun e w' => e = .returned (.bool r0) ∧ Up w w' := by
 have H : (((impl_isIndex.f K f0_0).bind fun t3 => some t3) : Option (Bool)) = some (r0) := h
 clear h
 replace H := Option.bind_eq_some_iff.mp H
 obtain ⟨t3, A4, H⟩ := H
 replace A4 := Aside0.mk A4
 try dsimp only at H
 obtain rfl := Option.some.inj H
 have ltbf0 := Aside0.mk hf0.lt
 go_enter Try.func114, Try.ntmps114
 refine wp_hide (fun Qf hQf => ?_)
 refine wp_seq_k (fun K1 hK1 => ?_)
 refine wp_region_lit ?_
 refine wpp fun K_ h_ => ?_; go_simp; refine h_ _ _ ?_; clear h_ K_
 refine wpList_nil ?_
 (try simp only [Exit.then, Exit.inBlock, ↓reduceIte, Nat.reduceEqDiff])
 refine hK1 _ _ ?_
 refine wp_seq_k (fun K2 hK2 => ?_)
 refine wp_region_lit ?_
 have cl0 := hf0.cell (o := 0) rfl
 refine wpp fun K_ h_ => ?_; go_simp; refine h_ _ _ ?_; clear h_ K_
 clear cl0
 refine step_call (wanted_none rfl) (by go_simp <;> rfl) (impl_isIndex.calls K f0_0 t3 w  A4.out) ?_
 rintro e w5 ⟨rfl, hu⟩
 have hu6 := Aside0.mk hu
 clear hu
 refine ⟨_, rfl, ?_⟩
 simp only [Act.put, nm1, nm2, nm3, i64_w]
 refine wpp fun K_ h_ => ?_; go_simp; refine h_ _ _ ?_; clear h_ K_
 refine wpList_nil ?_
 (try simp only [Exit.then, Exit.inBlock, ↓reduceIte, Nat.reduceEqDiff])
 refine hK2 _ _ ?_
 refine wp_ret ?_
 (try simp only [Exit.then, Exit.inBlock, ↓reduceIte, Nat.reduceEqDiff])
 refine hQf _ _ _ ?_
 exact bodyPost_ret (v := .bool t3) (by first | rfl | (simp [results, Try.results114, go_sem]; done) | (simp [results, Try.results114, go_sem]; rfl)) rfl ⟨rfl, hu6.out⟩

set_option maxHeartbeats 40000000 in
set_option maxRecDepth 100000 in
theorem impl_asked__impl_IsPermutation_1.calls (K : Nat) (a0 : Int) (bc1_0 : Nat) (c1_0_0 : Int) (r0 : Int) (w : World) (hc1_0 : Blk w bc1_0 [.int .i64 c1_0_0] 2) (h : impl_asked__impl_IsPermutation_1.f K a0 c1_0_0 = some (r0)) :
    Calls Try.prog 67 #[.int .i64 a0, .func (.func 114) #[] #[.pointer (some ⟨bc1_0, 0, none⟩)]] w fun e w' => e = .returned (.int .i64 r0) ∧ Up w w' := by
 have H : (((impl_IsField.f K a0).bind fun t4 => (if t4 = true then ((impl_IsPermutation_1.f K c1_0_0).bind fun t11 => (if t11 = true then some 0 else some 2)) else some 1)) : Option (Int)) = some (r0) := h
 clear h
 replace H := Option.bind_eq_some_iff.mp H
 obtain ⟨t4, A5, H⟩ := H
 replace A5 := Aside0.mk A5
 try dsimp only at H
 have ltbc1_0 := Aside0.mk hc1_0.lt
 go_enter Try.func67, Try.ntmps67
 refine wp_hide (fun Qf hQf => ?_)
 refine wp_seq_k (fun K1 hK1 => ?_)
 refine wp_region_lit ?_
 refine wpp fun K_ h_ => ?_; go_simp; refine h_ _ _ ?_; clear h_ K_
 refine wpList_nil ?_
 (try simp only [Exit.then, Exit.inBlock, ↓reduceIte, Nat.reduceEqDiff])
 refine hK1 _ _ ?_
 refine wp_seq_k (fun K2 hK2 => ?_)
 refine wp_seq_k (fun K3 hK3 => ?_)
 refine wp_region_lit ?_
 refine wpp fun K_ h_ => ?_; go_simp; refine h_ _ _ ?_; clear h_ K_
 refine step_call (wanted_none rfl) (by go_simp <;> rfl) (impl_IsField.calls K a0 t4 w  A5.out) ?_
 rintro e w6 ⟨rfl, hu⟩
 have hu7 := Aside0.mk hu
 clear hu
 refine ⟨_, rfl, ?_⟩
 simp only [Act.put, nm1, nm2, nm3, i64_w]
 refine wpp fun K_ h_ => ?_; go_simp; refine h_ _ _ ?_; clear h_ K_
 refine wpList_nil ?_
 (try simp only [Exit.then, Exit.inBlock, ↓reduceIte, Nat.reduceEqDiff])
 refine hK3 _ _ ?_
 by_cases c8 : (t4) = true
 rotate_left
 ·
  rw [if_neg c8] at H; replace c8 := Bool.eq_false_iff.mpr c8
  subst c8
  obtain rfl := Option.some.inj H
  refine wp_cond_true rfl ?_
  refine wp_seq_k (fun K18 hK18 => ?_)
  refine wp_region_lit ?_
  refine wpp fun K_ h_ => ?_; go_simp; refine h_ _ _ ?_; clear h_ K_
  refine wpList_nil ?_
  (try simp only [Exit.then, Exit.inBlock, ↓reduceIte, Nat.reduceEqDiff])
  refine hK18 _ _ ?_
  refine wp_ret ?_
  (try simp only [Exit.then, Exit.inBlock, ↓reduceIte, Nat.reduceEqDiff])
  refine hQf _ _ _ ?_
  exact bodyPost_ret (v := .int .i64 1) (by first | rfl | (simp [results, Try.results67, go_sem]; done) | (simp [results, Try.results67, go_sem]; rfl)) rfl ⟨rfl, hu7.out⟩
 rw [if_pos c8] at H
 subst c8
 replace H := Option.bind_eq_some_iff.mp H
 obtain ⟨t11, A12, H⟩ := H
 replace A12 := Aside0.mk A12
 try dsimp only at H
 refine wp_cond_false rfl ?_
 refine wp_skip ?_
 (try simp only [Exit.then, Exit.inBlock, ↓reduceIte, Nat.reduceEqDiff])
 refine hK2 _ _ ?_
 refine wp_seq_k (fun K9 hK9 => ?_)
 refine wp_seq_k (fun K10 hK10 => ?_)
 refine wp_region_lit ?_
 refine wpp fun K_ h_ => ?_; go_simp; refine h_ _ _ ?_; clear h_ K_
 refine step_call (wanted_none rfl) (by go_simp <;> rfl) (impl_IsPermutation_1.calls K bc1_0 c1_0_0 t11 w6 (hc1_0.up hu7.out) A12.out) ?_
 rintro e w13 ⟨rfl, hu⟩
 have hu14 := Aside0.mk hu
 clear hu
 refine ⟨_, rfl, ?_⟩
 simp only [Act.put, nm1, nm2, nm3, i64_w]
 refine wpp fun K_ h_ => ?_; go_simp; refine h_ _ _ ?_; clear h_ K_
 refine wpList_nil ?_
 (try simp only [Exit.then, Exit.inBlock, ↓reduceIte, Nat.reduceEqDiff])
 refine hK10 _ _ ?_
 by_cases c15 : (t11) = true
 rotate_left
 ·
  rw [if_neg c15] at H; replace c15 := Bool.eq_false_iff.mpr c15
  subst c15
  obtain rfl := Option.some.inj H
  refine wp_cond_true rfl ?_
  refine wp_seq_k (fun K17 hK17 => ?_)
  refine wp_region_lit ?_
  refine wpp fun K_ h_ => ?_; go_simp; refine h_ _ _ ?_; clear h_ K_
  refine wpList_nil ?_
  (try simp only [Exit.then, Exit.inBlock, ↓reduceIte, Nat.reduceEqDiff])
  refine hK17 _ _ ?_
  refine wp_ret ?_
  (try simp only [Exit.then, Exit.inBlock, ↓reduceIte, Nat.reduceEqDiff])
  refine hQf _ _ _ ?_
  exact bodyPost_ret (v := .int .i64 2) (by first | rfl | (simp [results, Try.results67, go_sem]; done) | (simp [results, Try.results67, go_sem]; rfl)) rfl ⟨rfl, (hu7.out.trans hu14.out)⟩
 rw [if_pos c15] at H
 subst c15
 obtain rfl := Option.some.inj H
 refine wp_cond_false rfl ?_
 refine wp_skip ?_
 (try simp only [Exit.then, Exit.inBlock, ↓reduceIte, Nat.reduceEqDiff])
 refine hK9 _ _ ?_
 refine wp_seq_k (fun K16 hK16 => ?_)
 refine wp_region_lit ?_
 refine wpp fun K_ h_ => ?_; go_simp; refine h_ _ _ ?_; clear h_ K_
 refine wpList_nil ?_
 (try simp only [Exit.then, Exit.inBlock, ↓reduceIte, Nat.reduceEqDiff])
 refine hK16 _ _ ?_
 refine wp_ret ?_
 (try simp only [Exit.then, Exit.inBlock, ↓reduceIte, Nat.reduceEqDiff])
 refine hQf _ _ _ ?_
 exact bodyPost_ret (v := .int .i64 0) (by first | rfl | (simp [results, Try.results67, go_sem]; done) | (simp [results, Try.results67, go_sem]; rfl)) rfl ⟨rfl, (hu7.out.trans hu14.out)⟩

set_option maxHeartbeats 40000000 in
set_option maxRecDepth 100000 in
theorem impl_valuesOf.calls (K : Nat) (a0 : Int) (a1 : Int) (r0 : List (Int)) (w : World)  (h : impl_valuesOf.f K a0 a1 = some (r0)) :
    Calls Try.prog 113 #[.int .i64 a0, .int .i64 a1] w fun e w' => ∃ (Ar0 : Option Addr) (cr0 : Nat), e = .returned (.slice Ar0 r0.length cr0) ∧ Own eI 2 w' w.heap.size (.slice Ar0 r0.length cr0) r0 ∧ Up w w' := by
 have H : ((impl_valuesOf.l0 K a0 a1 K 0 ([] : List (Int))) : Option (List (Int))) = some (r0) := h
 clear h
 go_enter Try.func113, Try.ntmps113
 refine wp_hide (fun Qf hQf => ?_)
 refine wp_seq_k (fun K1 hK1 => ?_)
 refine wp_region_lit ?_
 refine wpp fun K_ h_ => ?_; go_simp; refine h_ _ _ ?_; clear h_ K_
 refine wpList_nil ?_
 (try simp only [Exit.then, Exit.inBlock, ↓reduceIte, Nat.reduceEqDiff])
 refine hK1 _ _ ?_
 refine wp_seq_k (fun K2 hK2 => ?_)
 refine wp_region_lit ?_
 refine step_new (cs := []) (T := 2) (f := fun b => .slice (some ⟨b, 0, none⟩) 0 0) rfl (by go_simp <;> rfl) ?_
 intro b3 w4 hu lb hb3
 simp only [Act.put, nm1, nm2, nm3, i64_w]
 have lbb3 := Aside0.mk lb
 have ltb3 := Aside0.mk hb3.lt
 clear lb
 have hu5 := Aside0.mk hu
 clear hu
 refine wpp fun K_ h_ => ?_; go_simp; refine h_ _ _ ?_; clear h_ K_
 refine wpList_nil ?_
 (try simp only [Exit.then, Exit.inBlock, ↓reduceIte, Nat.reduceEqDiff])
 refine hK2 _ _ ?_
 refine wp_seq_k (fun K6 hK6 => ?_)
 refine wp_seq_k (fun K7 hK7 => ?_)
 refine wp_region_lit ?_
 refine wpp fun K_ h_ => ?_; go_simp; refine h_ _ _ ?_; clear h_ K_
 refine wpList_nil ?_
 (try simp only [Exit.then, Exit.inBlock, ↓reduceIte, Nat.reduceEqDiff])
 refine hK7 _ _ ?_
 refine wp_block ?_
 have h9 : Own eI 2 w4 w.heap.size (.slice (some ⟨b3, 0, none⟩) ([].length) 0) [] := Own.of_blk hb3 lbb3.out rfl (by simp) (by simp [Enc.flat, eI])
 have HL17 := Aside0.mk H
 clear H
 go_loopg [6, 5] K (fun kq v6 v5 w' => ∃ (x10 : Int) (x11 : List (Int)) (P12 : Option Addr) (q13 : Nat), v6 = .int .i64 x10 ∧ v5 = .slice P12 x11.length q13 ∧ Aside0 (impl_valuesOf.l0 K a0 a1 kq x10 x11 = some (r0)) ∧ Aside0 (kq ≤ K) ∧ Aside0 (Up w w') ∧ Aside0 (w4.heap.size ≤ w'.heap.size) ∧ Own eI 2 w' w.heap.size (.slice P12 x11.length q13) x11)
 case atStart => exact ⟨0, ([] : List (Int)), some ⟨b3, 0, none⟩, 0, (by first | rfl | simp), (by first | rfl | simp), HL17, ⟨Nat.le_refl _⟩, ⟨hu5.out⟩, ⟨Nat.le_refl _⟩, h9⟩
 case round =>
  rename_i J22 K23 hJ22 hK23
  obtain ⟨x10, x11, P12, q13, rfl, rfl, HL21, hk20, hu15, hz16, h18⟩ := hrel
  obtain ⟨w14, rfl⟩ : ∃ wo : World, wo = wr := ⟨_, rfl⟩
  obtain ⟨k19, rfl⟩ | rfl : (∃ k, gk = k + 1) ∨ gk = 0 := by rcases gk with _ | k; exact .inr rfl; exact .inl ⟨k, rfl⟩
  case inr => exact absurd HL21.out (by simp [impl_valuesOf.l0])
  have H := HL21.out
  clear HL21
  rw [impl_valuesOf.l0] at H
  refine wp_seq_k (fun K24 hK24 => ?_)
  refine wp_seq_k (fun K25 hK25 => ?_)
  refine wp_region_lit ?_
  refine wpp fun K_ h_ => ?_; go_simp; refine h_ _ _ ?_; clear h_ K_
  refine wpp fun K_ h_ => ?_; go_simp; refine h_ _ _ ?_; clear h_ K_
  refine wpp fun K_ h_ => ?_; go_simp; refine h_ _ _ ?_; clear h_ K_
  refine wpList_nil ?_
  (try simp only [Exit.then, Exit.inBlock, ↓reduceIte, Nat.reduceEqDiff])
  refine hK25 _ _ ?_
  by_cases c26 : (decide (x10 < a0)) = true
  rotate_left
  ·
   rw [if_neg c26] at H; replace c26 := Bool.eq_false_iff.mpr c26
   obtain rfl := Option.some.inj H
   try simp only [c26, Bool.not_true, Bool.not_false]
   refine wp_cond_false rfl ?_
   refine wp_exit ?_
   (try simp only [Exit.then, Exit.inBlock, ↓reduceIte, Nat.reduceEqDiff])
   refine hK6 _ _ ?_
   refine wp_seq_k (fun K48 hK48 => ?_)
   refine wp_region_lit ?_
   refine wpp fun K_ h_ => ?_; go_simp; refine h_ _ _ ?_; clear h_ K_
   refine wpp fun K_ h_ => ?_; go_simp; refine h_ _ _ ?_; clear h_ K_
   refine wpList_nil ?_
   (try simp only [Exit.then, Exit.inBlock, ↓reduceIte, Nat.reduceEqDiff])
   refine hK48 _ _ ?_
   refine wp_ret ?_
   (try simp only [Exit.then, Exit.inBlock, ↓reduceIte, Nat.reduceEqDiff])
   refine hQf _ _ _ ?_
   exact bodyPost_ret (v := .slice P12 x11.length q13) (by first | rfl | (simp [results, Try.results113, go_sem]; done) | (simp [results, Try.results113, go_sem]; rfl)) rfl ⟨P12, q13, rfl, (h18.lower (Nat.le_refl _)), hu15.out⟩
  rw [if_pos c26] at H
  replace H := Option.bind_eq_some_iff.mp H
  obtain ⟨t28, A29, H⟩ := H
  replace A29 := Aside0.mk A29
  try dsimp only at H
  try simp only [c26, Bool.not_true, Bool.not_false]
  refine wp_cond_true rfl ?_
  refine wp_skip ?_
  (try simp only [Exit.then, Exit.inBlock, ↓reduceIte, Nat.reduceEqDiff])
  refine hK24 _ _ ?_
  refine wp_seq_k (fun K27 hK27 => ?_)
  refine wp_block ?_
  refine wp_region_lit ?_
  refine wpp fun K_ h_ => ?_; go_simp; refine h_ _ _ ?_; clear h_ K_
  refine wpp fun K_ h_ => ?_; go_simp; refine h_ _ _ ?_; clear h_ K_
  refine wpp fun K_ h_ => ?_; go_simp; refine h_ _ _ ?_; clear h_ K_
  refine wpp fun K_ h_ => ?_; go_simp; refine h_ _ _ ?_; clear h_ K_
  refine step_call (wanted_none rfl) (by go_simp <;> rfl) (impl_spreadOf.calls K a0 a1 x10 t28 w14  A29.out) ?_
  rintro e w30 ⟨rfl, hu⟩
  have hu31 := Aside0.mk hu
  clear hu
  refine ⟨_, rfl, ?_⟩
  simp only [Act.put, nm1, nm2, nm3, i64_w]
  refine step_new (cs := [.int .i64 t28]) (T := 2) (f := fun b => .slice (some ⟨b, 0, none⟩) 1 1) rfl (by go_simp <;> rfl) ?_
  intro b32 w33 hu lb hb32
  simp only [Act.put, nm1, nm2, nm3, i64_w]
  have lbb32 := Aside0.mk lb
  have ltb32 := Aside0.mk hb32.lt
  clear lb
  have hu34 := Aside0.mk hu
  clear hu
  have hm36 := Aside0.mk (Nat.le_trans ((Nat.le_trans ((Nat.le_trans (hu5.out.size) hz16.out)) hu31.out.size)) hu34.out.size)
  have hm37 := Aside0.mk (Nat.le_trans ((Nat.le_trans ((Nat.le_trans (Nat.le_refl _) hz16.out)) hu31.out.size)) hu34.out.size)
  by_cases c35 : (decide (x11.length ≤ 1000000)) = true
  rotate_left
  ·
   rw [if_neg c35] at H; replace c35 := Bool.eq_false_iff.mpr c35
   exact absurd H (by simp)
  rw [if_pos c35] at H
  have HL47 := Aside0.mk H
  clear H
  try simp only [c35, Bool.not_true, Bool.not_false]
  have hO0 := Aside0.mk (h18.up (hu31.out.trans hu34.out))
  refine step_append eI (z := .int .i64 0) (bytes := 8) (base := w.heap.size) (xs := x11) (ys := [t28]) (wanted_none rfl) _ _ rfl rfl (by kernel_rfl) rfl (by decide) rfl rfl rfl hO0.out (Rd.of_blk (E := eI) (xs := [t28]) (o := 0) hb32 (by simp) (fun j u hu => by rcases j with _ | j <;> simp_all [Enc.flat, eI])) (hm36.out) (by have h0_ := (of_decide_eq_true (by assumption) : x11.length ≤ 1000000); (try simp only [List.length_cons, List.length_nil]); omega) ?_
  intro P38 q39 w40 h42 hg hat
  have hg43 := Aside0.mk hg
  have hat44 := Aside0.mk hat
  simp only [Act.put, nm1, nm2, nm3, i64_w]
  have lb45 := Aside0.mk hO0.out.lt
  clear hO0 hg hat
  have h46 := hb32.grow hg43.out (fun k hk => Nat.ne_of_lt (Nat.lt_of_lt_of_le ((fun k hk => Nat.lt_of_lt_of_le (h18.lt k hk).2 (hu31.out.size)) k hk) lbb32.out))
  refine wpp fun K_ h_ => ?_; go_simp; refine h_ _ _ ?_; clear h_ K_
  refine wpList_nil ?_
  (try simp only [Exit.then, Exit.inBlock, ↓reduceIte, Nat.reduceEqDiff])
  refine hK27 _ _ ?_
  refine wp_region_lit ?_
  refine wpp fun K_ h_ => ?_; go_simp; refine h_ _ _ ?_; clear h_ K_
  refine wpp fun K_ h_ => ?_; go_simp; refine h_ _ _ ?_; clear h_ K_
  refine wpp fun K_ h_ => ?_; go_simp; refine h_ _ _ ?_; clear h_ K_
  refine wpList_nil ?_
  (try simp only [Exit.then, Exit.inBlock, ↓reduceIte, Nat.reduceEqDiff])
  refine hK23 _ _ ?_
  go_roundg k19
  case measure => exact Nat.lt_succ_self _
  case rel => exact ⟨wrap64 (x10 + 1), (x11 ++ [t28]), P38, q39, (by first | rfl | simp), (by first | rfl | simp), HL47, ⟨by have := hk20.out; omega⟩, ⟨(((hu15.out.trans hu31.out).trans hu34.out).grow hg43.out (fun k hk => Nat.le_trans (Nat.le_refl _) ((fun k hk => (lb45.out k hk).1) k hk)))⟩, ⟨(Nat.le_trans (hm37.out) hg43.out.size)⟩, h42⟩

set_option maxHeartbeats 40000000 in
set_option maxRecDepth 100000 in
theorem impl_IsPermutation.calls (K : Nat) (a0 : Int) (a1 : Int) (r0 : Bool) (r1 : Int) (w : World)  (h : impl_IsPermutation.f K a0 a1 = some (r0, r1)) :
    Calls Try.prog 31 #[.int .i64 a0, .int .i64 a1] w fun e w' => e = .returned (.tuple #[.bool r0, .int .i64 r1]) ∧ Up w w' := by
 have H : (((impl_asked__impl_IsPermutation_1.f K a0 a1).bind fun t7 => (if (t7 == 0) = true then (if decide (0 ≤ a0) = true then (if decide (a0 ≤ 1000000) = true then ((impl_valuesOf.f K a0 a1).bind fun t24 => (impl_IsPermutation.l0 K t24 K 0 (repl ((a0).toNat) (false : Bool)))) else none) else none) else some (false, t7))) : Option (Bool × Int)) = some (r0, r1) := h
 clear h
 replace H := Option.bind_eq_some_iff.mp H
 obtain ⟨t7, A8, H⟩ := H
 replace A8 := Aside0.mk A8
 try dsimp only at H
 go_enter Try.func31, Try.ntmps31
 refine wp_hide (fun Qf hQf => ?_)
 refine wp_seq_k (fun K1 hK1 => ?_)
 refine wp_region_lit ?_
 refine step_new (cs := [.int .i64 a1]) (T := 2) (f := fun b => .pointer (some ⟨b, 0, none⟩)) rfl (by go_simp <;> rfl) ?_
 intro b2 w3 hu lb hb2
 simp only [Act.put, nm1, nm2, nm3, i64_w]
 have lbb2 := Aside0.mk lb
 have ltb2 := Aside0.mk hb2.lt
 clear lb
 have hu4 := Aside0.mk hu
 clear hu
 refine wpp fun K_ h_ => ?_; go_simp; refine h_ _ _ ?_; clear h_ K_
 refine wpp fun K_ h_ => ?_; go_simp; refine h_ _ _ ?_; clear h_ K_
 refine wpList_nil ?_
 (try simp only [Exit.then, Exit.inBlock, ↓reduceIte, Nat.reduceEqDiff])
 refine hK1 _ _ ?_
 refine wp_seq_k (fun K5 hK5 => ?_)
 refine wp_seq_k (fun K6 hK6 => ?_)
 refine wp_region_lit ?_
 refine wpp fun K_ h_ => ?_; go_simp; refine h_ _ _ ?_; clear h_ K_
 refine wpp fun K_ h_ => ?_; go_simp; refine h_ _ _ ?_; clear h_ K_
 refine step_call (wanted_none rfl) (by go_simp <;> rfl) (impl_asked__impl_IsPermutation_1.calls K a0 b2 a1 t7 w3 hb2 A8.out) ?_
 rintro e w9 ⟨rfl, hu⟩
 have hu10 := Aside0.mk hu
 clear hu
 refine ⟨_, rfl, ?_⟩
 simp only [Act.put, nm1, nm2, nm3, i64_w]
 refine wpp fun K_ h_ => ?_; go_simp; refine h_ _ _ ?_; clear h_ K_
 refine wpList_nil ?_
 (try simp only [Exit.then, Exit.inBlock, ↓reduceIte, Nat.reduceEqDiff])
 refine hK6 _ _ ?_
 refine wp_seq_k (fun K11 hK11 => ?_)
 refine wp_region_lit ?_
 refine wpp fun K_ h_ => ?_; go_simp; refine h_ _ _ ?_; clear h_ K_
 refine wpp fun K_ h_ => ?_; go_simp; refine h_ _ _ ?_; clear h_ K_
 refine wpList_nil ?_
 (try simp only [Exit.then, Exit.inBlock, ↓reduceIte, Nat.reduceEqDiff])
 refine hK11 _ _ ?_
 by_cases c12 : (t7 == 0) = true
 rotate_left
 ·
  rw [if_neg c12] at H; replace c12 := Bool.eq_false_iff.mpr c12
  have c12n : (t7 != 0) = true := by rw [bne, c12]; rfl
  have c12p : ¬ t7 = 0 := fun e => by simp [e] at c12
  simp only [Option.some.injEq, Prod.mk.injEq] at H
  obtain ⟨rfl, rfl⟩ := H
  try simp only [c12, c12n, Bool.not_true, Bool.not_false]
  refine wp_cond_true rfl ?_
  refine wp_seq_k (fun K80 hK80 => ?_)
  refine wp_region_lit ?_
  refine wpp fun K_ h_ => ?_; go_simp; refine h_ _ _ ?_; clear h_ K_
  refine wpp fun K_ h_ => ?_; go_simp; refine h_ _ _ ?_; clear h_ K_
  refine wpp fun K_ h_ => ?_; go_simp; refine h_ _ _ ?_; clear h_ K_
  refine wpList_nil ?_
  (try simp only [Exit.then, Exit.inBlock, ↓reduceIte, Nat.reduceEqDiff])
  refine hK80 _ _ ?_
  refine wp_ret ?_
  (try simp only [Exit.then, Exit.inBlock, ↓reduceIte, Nat.reduceEqDiff])
  refine hQf _ _ _ ?_
  exact bodyPost_ret (v := .tuple #[.bool false, .int .i64 t7]) (by first | rfl | (simp [results, Try.results31, go_sem]; done) | (simp [results, Try.results31, go_sem]; rfl)) rfl ⟨rfl, (hu4.out.trans hu10.out)⟩
 rw [if_pos c12] at H
 have c12n : (t7 != 0) = false := by rw [bne, c12]; rfl
 try simp only [c12, c12n, Bool.not_true, Bool.not_false]
 refine wp_cond_false rfl ?_
 refine wp_skip ?_
 (try simp only [Exit.then, Exit.inBlock, ↓reduceIte, Nat.reduceEqDiff])
 refine hK5 _ _ ?_
 refine wp_seq_k (fun K13 hK13 => ?_)
 refine wp_region_lit ?_
 refine wpp fun K_ h_ => ?_; go_simp; refine h_ _ _ ?_; clear h_ K_
 by_cases c14 : (decide (0 ≤ a0)) = true
 rotate_left
 ·
  rw [if_neg c14] at H; replace c14 := Bool.eq_false_iff.mpr c14
  exact absurd H (by simp)
 rw [if_pos c14] at H
 try simp only [c14, Bool.not_true, Bool.not_false]
 by_cases c15 : (decide (a0 ≤ 1000000)) = true
 rotate_left
 ·
  rw [if_neg c15] at H; replace c15 := Bool.eq_false_iff.mpr c15
  exact absurd H (by simp)
 rw [if_pos c15] at H
 replace H := Option.bind_eq_some_iff.mp H
 obtain ⟨t24, A27, H⟩ := H
 replace A27 := Aside0.mk A27
 try dsimp only at H
 try simp only [c15, Bool.not_true, Bool.not_false]
 refine step_make eB (z := .bool false) (bytes := 1) (n := a0) (z0 := false) (wanted_none rfl) _ _ rfl rfl rfl rfl (by kernel_rfl) rfl (by decide) (of_decide_eq_true (by assumption)) (by have h1_ : a0 ≤ 1000000 := of_decide_eq_true (by assumption); omega) ?_
 intro P16 q17 w18 h20 hu
 simp only [Act.put, nm1, nm2, nm3, i64_w]
 have hu21 := Aside0.mk hu
 clear hu
 refine wpp fun K_ h_ => ?_; go_simp; refine h_ _ _ ?_; clear h_ K_
 refine wpList_nil ?_
 (try simp only [Exit.then, Exit.inBlock, ↓reduceIte, Nat.reduceEqDiff])
 refine hK13 _ _ ?_
 refine wp_seq_k (fun K22 hK22 => ?_)
 refine wp_seq_k (fun K23 hK23 => ?_)
 refine wp_region_lit ?_
 refine wpp fun K_ h_ => ?_; go_simp; refine h_ _ _ ?_; clear h_ K_
 have cl0 := (hb2.up (hu10.out.trans hu21.out)).cell (o := 0) rfl
 refine wpp fun K_ h_ => ?_; go_simp; refine h_ _ _ ?_; clear h_ K_
 clear cl0
 refine step_call (wanted_none rfl) (by go_simp <;> rfl) (impl_valuesOf.calls K a0 a1 t24 w18  A27.out) ?_
 rintro e w28 ⟨P25, q26, rfl, ht24, hu⟩
 have hu29 := Aside0.mk hu
 clear hu
 refine ⟨_, rfl, ?_⟩
 simp only [Act.put, nm1, nm2, nm3, i64_w]
 refine wpp fun K_ h_ => ?_; go_simp; refine h_ _ _ ?_; clear h_ K_
 refine wpp fun K_ h_ => ?_; go_simp; refine h_ _ _ ?_; clear h_ K_
 refine wpList_nil ?_
 (try simp only [Exit.then, Exit.inBlock, ↓reduceIte, Nat.reduceEqDiff])
 refine hK23 _ _ ?_
 refine wp_block ?_
 have HL35 := Aside0.mk H
 clear H
 go_loopg [22] K (fun kq v22 w' => ∃ (x30 : Int) (x31 : List (Bool)), v22 = .int .i64 x30 ∧ Aside0 (impl_IsPermutation.l0 K t24 kq x30 x31 = some (r0, r1)) ∧ Aside0 (kq ≤ K) ∧ Aside0 (Up w9 w') ∧ Aside0 (w28.heap.size ≤ w'.heap.size) ∧ Own eB 4 w' w9.heap.size (.slice P16 x31.length q17) x31 ∧ Aside0 ((repl ((a0).toNat) (false : Bool)).length = x31.length) ∧ Own eI 2 w' w18.heap.size (.slice P25 t24.length q26) t24 ∧ Aside0 (∀ k, blk (.slice P16 x31.length q17) = some k → k ≠ b2) ∧ Aside0 (∀ k l, blk (.slice P16 x31.length q17) = some k → blk (.slice P25 t24.length q26) = some l → k ≠ l))
 case atStart => exact ⟨0, (repl ((a0).toNat) (false : Bool)), (by first | rfl | simp), HL35, ⟨Nat.le_refl _⟩, ⟨(hu21.out.trans hu29.out)⟩, ⟨Nat.le_refl _⟩, (h20.up hu29.out), ⟨rfl⟩, ht24, ⟨(fun k hk => Ne.symm ((fun k hk => Nat.ne_of_lt (Nat.lt_of_lt_of_le (Nat.lt_of_lt_of_le ltb2.out (hu10.out.size)) ((fun k hk => Nat.le_trans (Nat.le_refl _) (h20.lt k hk).1) k hk))) k hk))⟩, ⟨(fun k l hk hl => Nat.ne_of_lt (Nat.lt_of_lt_of_le ((fun k hk => Nat.lt_of_lt_of_le (h20.lt k hk).2 (Nat.le_refl _)) k hk) ((fun k hk => Nat.le_trans (Nat.le_refl _) (ht24.lt k hk).1) l hl)))⟩⟩
 case round =>
  rename_i J44 K45 hJ44 hK45
  obtain ⟨x30, x31, rfl, HL43, hk42, hu33, hz34, h36, hl37, h38, hn39, hn40⟩ := hrel
  obtain ⟨w32, rfl⟩ : ∃ wo : World, wo = wr := ⟨_, rfl⟩
  obtain ⟨k41, rfl⟩ | rfl : (∃ k, gk = k + 1) ∨ gk = 0 := by rcases gk with _ | k; exact .inr rfl; exact .inl ⟨k, rfl⟩
  case inr => exact absurd HL43.out (by simp [impl_IsPermutation.l0])
  have H := HL43.out
  clear HL43
  rw [impl_IsPermutation.l0] at H
  refine wp_seq_k (fun K46 hK46 => ?_)
  refine wp_region_lit ?_
  refine wpp fun K_ h_ => ?_; go_simp; refine h_ _ _ ?_; clear h_ K_
  refine wpList_nil ?_
  (try simp only [Exit.then, Exit.inBlock, ↓reduceIte, Nat.reduceEqDiff])
  refine hK46 _ _ ?_
  refine wp_seq_k (fun K47 hK47 => ?_)
  have hm49 := Aside0.mk (Nat.le_trans ((Nat.le_trans ((Nat.le_trans ((Nat.le_trans (hu4.out.size) hu10.out.size)) hu21.out.size)) hu29.out.size)) hz34.out)
  by_cases c48 : (decide (x30 < (t24.length : Int))) = true
  rotate_left
  ·
   rw [if_neg c48] at H; replace c48 := Bool.eq_false_iff.mpr c48
   simp only [Option.some.injEq, Prod.mk.injEq] at H
   obtain ⟨rfl, rfl⟩ := H
   try simp only [c48, Bool.not_true, Bool.not_false]
   refine wp_cond_false rfl ?_
   refine wp_exit ?_
   (try simp only [Exit.then, Exit.inBlock, ↓reduceIte, Nat.reduceEqDiff])
   refine hK22 _ _ ?_
   refine wp_seq_k (fun K79 hK79 => ?_)
   refine wp_region_lit ?_
   refine wpp fun K_ h_ => ?_; go_simp; refine h_ _ _ ?_; clear h_ K_
   refine wpp fun K_ h_ => ?_; go_simp; refine h_ _ _ ?_; clear h_ K_
   refine wpList_nil ?_
   (try simp only [Exit.then, Exit.inBlock, ↓reduceIte, Nat.reduceEqDiff])
   refine hK79 _ _ ?_
   refine wp_ret ?_
   (try simp only [Exit.then, Exit.inBlock, ↓reduceIte, Nat.reduceEqDiff])
   refine hQf _ _ _ ?_
   exact bodyPost_ret (v := .tuple #[.bool true, .int .i64 0]) (by first | rfl | (simp [results, Try.results31, go_sem]; done) | (simp [results, Try.results31, go_sem]; rfl)) rfl ⟨rfl, ((hu4.out.trans hu10.out).trans hu33.out)⟩
  rw [if_pos c48] at H
  replace H := Option.bind_eq_some_iff.mp H
  obtain ⟨t52, A53, H⟩ := H
  replace A53 := Aside0.mk A53
  try dsimp only at H
  replace H := Option.bind_eq_some_iff.mp H
  obtain ⟨t59, A60, H⟩ := H
  replace A60 := Aside0.mk A60
  try dsimp only at H
  try simp only [c48, Bool.not_true, Bool.not_false]
  refine wp_cond_true rfl ?_
  refine wp_skip ?_
  (try simp only [Exit.then, Exit.inBlock, ↓reduceIte, Nat.reduceEqDiff])
  refine hK47 _ _ ?_
  refine wp_seq_k (fun K50 hK50 => ?_)
  refine wp_block ?_
  refine wp_seq_k (fun K51 hK51 => ?_)
  refine wp_region_lit ?_
  refine step_index eI (T := 2) (wanted_none rfl) rfl (by kernel_rfl) (by kernel_rfl) rfl rfl rfl h38.rd A53.out ?_
  intro ad54 hat he
  have he55 := Aside0.mk he
  have hat56 := Aside0.mk hat
  clear he hat
  simp only [Act.put, nm1, nm2, nm3, i64_w]
  have cl0 := he55.out 0 _ rfl
  rw [addr_add0] at cl0
  refine wpp fun K_ h_ => ?_; go_simp; refine h_ _ _ ?_; clear h_ K_
  clear cl0
  refine wpp fun K_ h_ => ?_; go_simp; refine h_ _ _ ?_; clear h_ K_
  refine wpList_nil ?_
  (try simp only [Exit.then, Exit.inBlock, ↓reduceIte, Nat.reduceEqDiff])
  refine hK51 _ _ ?_
  refine wp_seq_k (fun K57 hK57 => ?_)
  refine wp_seq_k (fun K58 hK58 => ?_)
  refine wp_region_lit ?_
  refine wpp fun K_ h_ => ?_; go_simp; refine h_ _ _ ?_; clear h_ K_
  refine wpp fun K_ h_ => ?_; go_simp; refine h_ _ _ ?_; clear h_ K_
  refine step_index eB (T := 4) (wanted_none rfl) rfl (by kernel_rfl) (by kernel_rfl) rfl hl37.out rfl h36.rd A60.out ?_
  intro ad61 hat he
  have he62 := Aside0.mk he
  have hat63 := Aside0.mk hat
  clear he hat
  simp only [Act.put, nm1, nm2, nm3, i64_w]
  have cl0 := he62.out 0 _ rfl
  rw [addr_add0] at cl0
  refine wpp fun K_ h_ => ?_; go_simp; refine h_ _ _ ?_; clear h_ K_
  clear cl0
  refine wpList_nil ?_
  (try simp only [Exit.then, Exit.inBlock, ↓reduceIte, Nat.reduceEqDiff])
  refine hK58 _ _ ?_
  by_cases c64 : (t59) = true
  ·
   rw [if_pos c64] at H
   subst c64
   simp only [Option.some.injEq, Prod.mk.injEq] at H
   obtain ⟨rfl, rfl⟩ := H
   refine wp_cond_true rfl ?_
   refine wp_seq_k (fun K65 hK65 => ?_)
   refine wp_region_lit ?_
   refine wpp fun K_ h_ => ?_; go_simp; refine h_ _ _ ?_; clear h_ K_
   refine wpp fun K_ h_ => ?_; go_simp; refine h_ _ _ ?_; clear h_ K_
   refine wpList_nil ?_
   (try simp only [Exit.then, Exit.inBlock, ↓reduceIte, Nat.reduceEqDiff])
   refine hK65 _ _ ?_
   refine wp_ret ?_
   (try simp only [Exit.then, Exit.inBlock, ↓reduceIte, Nat.reduceEqDiff])
   refine hQf _ _ _ ?_
   exact bodyPost_ret (v := .tuple #[.bool false, .int .i64 0]) (by first | rfl | (simp [results, Try.results31, go_sem]; done) | (simp [results, Try.results31, go_sem]; rfl)) rfl ⟨rfl, ((hu4.out.trans hu10.out).trans hu33.out)⟩
  rw [if_neg c64] at H; replace c64 := Bool.eq_false_iff.mpr c64
  subst c64
  replace H := Option.bind_eq_some_iff.mp H
  obtain ⟨t66, A67, H⟩ := H
  replace A67 := Aside0.mk A67
  try dsimp only at H
  have HL78 := Aside0.mk H
  clear H
  refine wp_cond_false rfl ?_
  refine wp_skip ?_
  (try simp only [Exit.then, Exit.inBlock, ↓reduceIte, Nat.reduceEqDiff])
  refine hK57 _ _ ?_
  refine wp_region_lit ?_
  refine wpp fun K_ h_ => ?_; go_simp; refine h_ _ _ ?_; clear h_ K_
  refine wpp fun K_ h_ => ?_; go_simp; refine h_ _ _ ?_; clear h_ K_
  refine step_index eB (T := 4) (wanted_none rfl) rfl (by kernel_rfl) (by kernel_rfl) rfl hl37.out rfl h36.rd A67.out ?_
  intro ad68 hat he
  have he69 := Aside0.mk he
  have hat70 := Aside0.mk hat
  clear he hat
  simp only [Act.put, nm1, nm2, nm3, i64_w]
  have hO0 := Aside0.mk h36
  have lb75 := Aside0.mk hO0.out.lt
  refine step_put eB (T := 4) (u := .bool true) (old := t66) (new := true) 0 rfl rfl rfl hat70.out (addr_add0 _).symm rfl rfl (by kernel_rfl) (by simp [Value.cells, Value.oneCell']) (Nat.le_of_ble_eq_true rfl) rfl hO0.out A67.out ?_
  intro w71 h73 hg
  have hg74 := Aside0.mk hg
  clear hO0 hg
  try simp only [Act.put, nm1, nm2, nm3, i64_w]
  have h76 := h38.grow hg74.out hn40.out
  have hl77 : Aside0 ((repl ((a0).toNat) (false : Bool)).length = (x31.set (t52).toNat true).length) := Aside0.mk (hl37.out.trans (List.length_set ..).symm)
  refine wpList_nil ?_
  (try simp only [Exit.then, Exit.inBlock, ↓reduceIte, Nat.reduceEqDiff])
  refine hK50 _ _ ?_
  refine wp_region_lit ?_
  refine wpp fun K_ h_ => ?_; go_simp; refine h_ _ _ ?_; clear h_ K_
  refine wpp fun K_ h_ => ?_; go_simp; refine h_ _ _ ?_; clear h_ K_
  refine wpList_nil ?_
  (try simp only [Exit.then, Exit.inBlock, ↓reduceIte, Nat.reduceEqDiff])
  refine hK45 _ _ ?_
  go_roundg k41
  case measure => exact Nat.lt_succ_self _
  case rel => exact ⟨wrap64 (x30 + 1), (x31.set (t52).toNat true), (by first | rfl | simp), HL78, ⟨by have := hk42.out; omega⟩, ⟨(hu33.out.grow hg74.out (fun k hk => Nat.le_trans (Nat.le_refl _) ((fun k hk => (lb75.out k hk).1) k hk)))⟩, ⟨(Nat.le_trans ((Nat.le_trans (Nat.le_refl _) hz34.out)) hg74.out.size)⟩, h73, ⟨hl77.out⟩, h76, ⟨(fun k hk => hn39.out k (blk_eq.symm.trans hk))⟩, ⟨(fun k l hk hl => hn40.out k l (blk_eq.symm.trans hk) hl)⟩⟩

set_option maxHeartbeats 40000000 in
set_option maxRecDepth 100000 in
theorem spec_IsPermutation.calls (K : Nat) (a0 : Int) (a1 : Int) (r0 : Bool) (r1 : Int) (w : World)  (h : spec_IsPermutation.f K a0 a1 = some (r0, r1)) :
    Calls Try.prog 32 #[.int .i64 a0, .int .i64 a1] w fun e w' => e = .returned (.tuple #[.bool r0, .int .i64 r1]) ∧ Up w w' := by
 have H : (((spec_l05Code.f K a0 a1 ([])).bind fun t4 => (if (t4 == 0) = true then ((spec_l05Values.f K a0 a1).bind fun t11 => (if decide (0 ≤ a0) = true then (if decide (a0 ≤ 1000000) = true then (spec_IsPermutation.l0 K t11 K 0 (repl ((a0).toNat) (false : Bool))) else none) else none)) else some (false, t4))) : Option (Bool × Int)) = some (r0, r1) := h
 clear h
 replace H := Option.bind_eq_some_iff.mp H
 obtain ⟨t4, A5, H⟩ := H
 replace A5 := Aside0.mk A5
 try dsimp only at H
 go_enter Try.func32, Try.ntmps32
 refine wp_hide (fun Qf hQf => ?_)
 refine wp_seq_k (fun K1 hK1 => ?_)
 refine wp_region_lit ?_
 refine wpp fun K_ h_ => ?_; go_simp; refine h_ _ _ ?_; clear h_ K_
 refine wpp fun K_ h_ => ?_; go_simp; refine h_ _ _ ?_; clear h_ K_
 refine wpList_nil ?_
 (try simp only [Exit.then, Exit.inBlock, ↓reduceIte, Nat.reduceEqDiff])
 refine hK1 _ _ ?_
 refine wp_seq_k (fun K2 hK2 => ?_)
 refine wp_seq_k (fun K3 hK3 => ?_)
 refine wp_region_lit ?_
 refine wpp fun K_ h_ => ?_; go_simp; refine h_ _ _ ?_; clear h_ K_
 refine wpp fun K_ h_ => ?_; go_simp; refine h_ _ _ ?_; clear h_ K_
 refine step_call (wanted_none rfl) (by go_simp <;> rfl) (spec_l05Code.calls K a0 a1 none 0 ([]) t4 w (Rd.nil) A5.out) ?_
 rintro e w6 ⟨rfl, hu⟩
 have hu7 := Aside0.mk hu
 clear hu
 refine ⟨_, rfl, ?_⟩
 simp only [Act.put, nm1, nm2, nm3, i64_w]
 refine wpp fun K_ h_ => ?_; go_simp; refine h_ _ _ ?_; clear h_ K_
 refine wpList_nil ?_
 (try simp only [Exit.then, Exit.inBlock, ↓reduceIte, Nat.reduceEqDiff])
 refine hK3 _ _ ?_
 refine wp_seq_k (fun K8 hK8 => ?_)
 refine wp_region_lit ?_
 refine wpp fun K_ h_ => ?_; go_simp; refine h_ _ _ ?_; clear h_ K_
 refine wpp fun K_ h_ => ?_; go_simp; refine h_ _ _ ?_; clear h_ K_
 refine wpList_nil ?_
 (try simp only [Exit.then, Exit.inBlock, ↓reduceIte, Nat.reduceEqDiff])
 refine hK8 _ _ ?_
 by_cases c9 : (t4 == 0) = true
 rotate_left
 ·
  rw [if_neg c9] at H; replace c9 := Bool.eq_false_iff.mpr c9
  have c9n : (t4 != 0) = true := by rw [bne, c9]; rfl
  have c9p : ¬ t4 = 0 := fun e => by simp [e] at c9
  simp only [Option.some.injEq, Prod.mk.injEq] at H
  obtain ⟨rfl, rfl⟩ := H
  try simp only [c9, c9n, Bool.not_true, Bool.not_false]
  refine wp_cond_true rfl ?_
  refine wp_seq_k (fun K79 hK79 => ?_)
  refine wp_region_lit ?_
  refine wpp fun K_ h_ => ?_; go_simp; refine h_ _ _ ?_; clear h_ K_
  refine wpp fun K_ h_ => ?_; go_simp; refine h_ _ _ ?_; clear h_ K_
  refine wpp fun K_ h_ => ?_; go_simp; refine h_ _ _ ?_; clear h_ K_
  refine wpList_nil ?_
  (try simp only [Exit.then, Exit.inBlock, ↓reduceIte, Nat.reduceEqDiff])
  refine hK79 _ _ ?_
  refine wp_ret ?_
  (try simp only [Exit.then, Exit.inBlock, ↓reduceIte, Nat.reduceEqDiff])
  refine hQf _ _ _ ?_
  exact bodyPost_ret (v := .tuple #[.bool false, .int .i64 t4]) (by first | rfl | (simp [results, Try.results32, go_sem]; done) | (simp [results, Try.results32, go_sem]; rfl)) rfl ⟨rfl, hu7.out⟩
 rw [if_pos c9] at H
 have c9n : (t4 != 0) = false := by rw [bne, c9]; rfl
 replace H := Option.bind_eq_some_iff.mp H
 obtain ⟨t11, A14, H⟩ := H
 replace A14 := Aside0.mk A14
 try dsimp only at H
 try simp only [c9, c9n, Bool.not_true, Bool.not_false]
 refine wp_cond_false rfl ?_
 refine wp_skip ?_
 (try simp only [Exit.then, Exit.inBlock, ↓reduceIte, Nat.reduceEqDiff])
 refine hK2 _ _ ?_
 refine wp_seq_k (fun K10 hK10 => ?_)
 by_cases c16 : (decide (0 ≤ a0)) = true
 rotate_left
 ·
  rw [if_neg c16] at H; replace c16 := Bool.eq_false_iff.mpr c16
  exact absurd H (by simp)
 rw [if_pos c16] at H
 try simp only [c16, Bool.not_true, Bool.not_false]
 by_cases c17 : (decide (a0 ≤ 1000000)) = true
 rotate_left
 ·
  rw [if_neg c17] at H; replace c17 := Bool.eq_false_iff.mpr c17
  exact absurd H (by simp)
 rw [if_pos c17] at H
 try simp only [c17, Bool.not_true, Bool.not_false]
 refine' wp_region_up 7 [Slot.det _, Slot.det _, Slot.any (RowTo eI 2 w6.heap.size t11 (fun v => v)) true, Slot.det _, Slot.any (RowTo eB 4 w6.heap.size (repl ((a0).toNat) (false : Bool)) (fun v => v)) true, Slot.same 2, Slot.same 4] (by kernel_rfl) (by kernel_rfl) ?main
 case main =>
  simp only [List.take_succ_cons, List.take_zero]
  refine wpK_ops rfl (fun w1 hu => ?_) ?_
  · clear hu
    go_simp
    first | done | rfl
  simp only [Act.put, nm1, nm2, nm3, i64_w]
  refine wpK_ops rfl (fun w1 hu => ?_) ?_
  · clear hu
    go_simp
    first | done | rfl
  simp only [Act.put, nm1, nm2, nm3, i64_w]
  refine wpK_any rfl (stab_row _ _ _ _ _) (fun w1 hu hl => ?_) (fun v15 => ?_)
  · have hcl := spec_l05Values.calls K a0 a1 t11 w1  A14.out
    have hz := ((Up.refl _).drew.trans hu).size
    clear hu
    replace hcl := Aside0.mk hcl
    exact fresh_row1 (by go_simp <;> rfl) hcl.out hz
  simp only [Act.put, nm1, nm2, nm3, i64_w]
  refine wpK_ops rfl (fun w1 hu => ?_) ?_
  · clear hu
    go_simp
    first | done | rfl
  simp only [Act.put, nm1, nm2, nm3, i64_w]
  refine wpK_any rfl (stab_row _ _ _ _ _) (fun w1 hu _ => fresh_make eB (z := .bool false) (bytes := 1) (n := a0) (z0 := false) _ _ rfl rfl rfl (by kernel_rfl) (by kernel_rfl) rfl (by decide) (of_decide_eq_true (by assumption)) (by have h1_ : a0 ≤ 1000000 := of_decide_eq_true (by assumption); omega) (by have h1_ : a0 ≤ 1000000 := of_decide_eq_true (by assumption); omega) ((Up.refl _).drew.trans hu).size) (fun v21 => ?_)
  simp only [Act.put, nm1, nm2, nm3, i64_w]
  refine wpK_same rfl (by kernel_rfl) rfl v15 rfl (fun w1 hu => ?_) ?_
  · clear hu
    go_simp
    first | done | rfl
  simp only [Act.put, nm1, nm2, nm3, i64_w]
  refine wpK_same rfl (by kernel_rfl) rfl v21 rfl (fun w1 hu => ?_) ?_
  · clear hu
    go_simp
    first | done | rfl
  simp only [Act.put, nm1, nm2, nm3, i64_w]
  refine wpK_nil ?_
  intro w22 hu hap
  simp only [List.drop_succ_cons, List.drop_zero]
  replace hu := (Up.refl _).drew.trans hu
  obtain ⟨hf0, hn0, ⟨P18, q19, e0, hr20⟩, hf1, hn1, ⟨P12, q13, e1, ht11⟩, -⟩ := hap
  have hn23 := Aside0.mk (fun k_ l_ hk hl => hn0 _ (.head _) rfl rfl k_ l_ (by rw [e0]; exact hk) (by rw [e1]; exact hl) : ∀ k_ l_, blk (.slice P18 ((repl ((a0).toNat) (false : Bool)).length) q19) = some k_ → blk (.slice P12 t11.length q13) = some l_ → k_ ≠ l_)
  dsimp only at e0 e1
  subst e0 e1
  clear hf0 hn0 hf1 hn1
  have hu24 := Aside0.mk hu
  clear hu
  refine wpList_nil ?_
  (try simp only [Exit.then, Exit.inBlock, ↓reduceIte, Nat.reduceEqDiff])
  refine hK10 _ _ ?_
  refine wp_seq_k (fun K25 hK25 => ?_)
  refine wp_seq_k (fun K26 hK26 => ?_)
  refine wp_region_lit ?_
  refine wpp fun K_ h_ => ?_; go_simp; refine h_ _ _ ?_; clear h_ K_
  refine wpList_nil ?_
  (try simp only [Exit.then, Exit.inBlock, ↓reduceIte, Nat.reduceEqDiff])
  refine hK26 _ _ ?_
  refine wp_block ?_
  have HL32 := Aside0.mk H
  clear H
  go_loopg [9] K (fun kq v9 w' => ∃ (x27 : Int) (x28 : List (Bool)), v9 = .int .i64 x27 ∧ Aside0 (spec_IsPermutation.l0 K t11 kq x27 x28 = some (r0, r1)) ∧ Aside0 (kq ≤ K) ∧ Aside0 (Up w6 w') ∧ Aside0 (w22.heap.size ≤ w'.heap.size) ∧ Own eI 2 w' w6.heap.size (.slice P12 t11.length q13) t11 ∧ Own eB 4 w' w6.heap.size (.slice P18 x28.length q19) x28 ∧ Aside0 ((repl ((a0).toNat) (false : Bool)).length = x28.length) ∧ Aside0 (∀ k l, blk (.slice P18 x28.length q19) = some k → blk (.slice P12 t11.length q13) = some l → k ≠ l))
  case atStart => exact ⟨0, (repl ((a0).toNat) (false : Bool)), (by first | rfl | simp), HL32, ⟨Nat.le_refl _⟩, ⟨hu24.out⟩, ⟨Nat.le_refl _⟩, ht11, hr20, ⟨rfl⟩, ⟨hn23.out⟩⟩
  case round =>
   rename_i J40 K41 hJ40 hK41
   obtain ⟨x27, x28, rfl, HL39, hk38, hu30, hz31, h33, h34, hl35, hn36⟩ := hrel
   obtain ⟨w29, rfl⟩ : ∃ wo : World, wo = wr := ⟨_, rfl⟩
   obtain ⟨k37, rfl⟩ | rfl : (∃ k, gk = k + 1) ∨ gk = 0 := by rcases gk with _ | k; exact .inr rfl; exact .inl ⟨k, rfl⟩
   case inr => exact absurd HL39.out (by simp [spec_IsPermutation.l0])
   have H := HL39.out
   clear HL39
   rw [spec_IsPermutation.l0] at H
   refine wp_seq_k (fun K42 hK42 => ?_)
   refine wp_seq_k (fun K43 hK43 => ?_)
   refine wp_region_lit ?_
   refine wpp fun K_ h_ => ?_; go_simp; refine h_ _ _ ?_; clear h_ K_
   refine wpp fun K_ h_ => ?_; go_simp; refine h_ _ _ ?_; clear h_ K_
   refine wpp fun K_ h_ => ?_; go_simp; refine h_ _ _ ?_; clear h_ K_
   refine wpp fun K_ h_ => ?_; go_simp; refine h_ _ _ ?_; clear h_ K_
   refine wpList_nil ?_
   (try simp only [Exit.then, Exit.inBlock, ↓reduceIte, Nat.reduceEqDiff])
   refine hK43 _ _ ?_
   by_cases c44 : (decide (x27 < (t11.length : Int))) = true
   rotate_left
   ·
    rw [if_neg c44] at H; replace c44 := Bool.eq_false_iff.mpr c44
    simp only [Option.some.injEq, Prod.mk.injEq] at H
    obtain ⟨rfl, rfl⟩ := H
    try simp only [c44, Bool.not_true, Bool.not_false]
    refine wp_cond_false rfl ?_
    refine wp_exit ?_
    (try simp only [Exit.then, Exit.inBlock, ↓reduceIte, Nat.reduceEqDiff])
    refine hK25 _ _ ?_
    refine wp_seq_k (fun K78 hK78 => ?_)
    refine wp_region_lit ?_
    refine wpp fun K_ h_ => ?_; go_simp; refine h_ _ _ ?_; clear h_ K_
    refine wpp fun K_ h_ => ?_; go_simp; refine h_ _ _ ?_; clear h_ K_
    refine wpList_nil ?_
    (try simp only [Exit.then, Exit.inBlock, ↓reduceIte, Nat.reduceEqDiff])
    refine hK78 _ _ ?_
    refine wp_ret ?_
    (try simp only [Exit.then, Exit.inBlock, ↓reduceIte, Nat.reduceEqDiff])
    refine hQf _ _ _ ?_
    exact bodyPost_ret (v := .tuple #[.bool true, .int .i64 0]) (by first | rfl | (simp [results, Try.results32, go_sem]; done) | (simp [results, Try.results32, go_sem]; rfl)) rfl ⟨rfl, (hu7.out.trans hu30.out)⟩
   rw [if_pos c44] at H
   replace H := Option.bind_eq_some_iff.mp H
   obtain ⟨t48, A49, H⟩ := H
   replace A49 := Aside0.mk A49
   try dsimp only at H
   replace H := Option.bind_eq_some_iff.mp H
   obtain ⟨t53, A54, H⟩ := H
   replace A54 := Aside0.mk A54
   try dsimp only at H
   try simp only [c44, Bool.not_true, Bool.not_false]
   refine wp_cond_true rfl ?_
   refine wp_skip ?_
   (try simp only [Exit.then, Exit.inBlock, ↓reduceIte, Nat.reduceEqDiff])
   refine hK42 _ _ ?_
   refine wp_seq_k (fun K45 hK45 => ?_)
   refine wp_block ?_
   refine wp_seq_k (fun K46 hK46 => ?_)
   refine wp_seq_k (fun K47 hK47 => ?_)
   refine wp_region_lit ?_
   refine wpp fun K_ h_ => ?_; go_simp; refine h_ _ _ ?_; clear h_ K_
   refine wpp fun K_ h_ => ?_; go_simp; refine h_ _ _ ?_; clear h_ K_
   refine wpp fun K_ h_ => ?_; go_simp; refine h_ _ _ ?_; clear h_ K_
   refine step_index eI (T := 2) (wanted_none rfl) rfl (by kernel_rfl) (by kernel_rfl) rfl rfl rfl h33.rd A49.out ?_
   intro ad50 hat he
   have he51 := Aside0.mk he
   have hat52 := Aside0.mk hat
   clear he hat
   simp only [Act.put, nm1, nm2, nm3, i64_w]
   have cl0 := he51.out 0 _ rfl
   rw [addr_add0] at cl0
   refine wpp fun K_ h_ => ?_; go_simp; refine h_ _ _ ?_; clear h_ K_
   clear cl0
   refine step_index eB (T := 4) (wanted_none rfl) rfl (by kernel_rfl) (by kernel_rfl) rfl hl35.out rfl h34.rd A54.out ?_
   intro ad55 hat he
   have he56 := Aside0.mk he
   have hat57 := Aside0.mk hat
   clear he hat
   simp only [Act.put, nm1, nm2, nm3, i64_w]
   have cl0 := he56.out 0 _ rfl
   rw [addr_add0] at cl0
   refine wpp fun K_ h_ => ?_; go_simp; refine h_ _ _ ?_; clear h_ K_
   clear cl0
   refine wpList_nil ?_
   (try simp only [Exit.then, Exit.inBlock, ↓reduceIte, Nat.reduceEqDiff])
   refine hK47 _ _ ?_
   by_cases c58 : (t53) = true
   ·
    rw [if_pos c58] at H
    subst c58
    simp only [Option.some.injEq, Prod.mk.injEq] at H
    obtain ⟨rfl, rfl⟩ := H
    refine wp_cond_true rfl ?_
    refine wp_seq_k (fun K59 hK59 => ?_)
    refine wp_region_lit ?_
    refine wpp fun K_ h_ => ?_; go_simp; refine h_ _ _ ?_; clear h_ K_
    refine wpp fun K_ h_ => ?_; go_simp; refine h_ _ _ ?_; clear h_ K_
    refine wpList_nil ?_
    (try simp only [Exit.then, Exit.inBlock, ↓reduceIte, Nat.reduceEqDiff])
    refine hK59 _ _ ?_
    refine wp_ret ?_
    (try simp only [Exit.then, Exit.inBlock, ↓reduceIte, Nat.reduceEqDiff])
    refine hQf _ _ _ ?_
    exact bodyPost_ret (v := .tuple #[.bool false, .int .i64 0]) (by first | rfl | (simp [results, Try.results32, go_sem]; done) | (simp [results, Try.results32, go_sem]; rfl)) rfl ⟨rfl, (hu7.out.trans hu30.out)⟩
   rw [if_neg c58] at H; replace c58 := Bool.eq_false_iff.mpr c58
   subst c58
   replace H := Option.bind_eq_some_iff.mp H
   obtain ⟨t60, A61, H⟩ := H
   replace A61 := Aside0.mk A61
   try dsimp only at H
   replace H := Option.bind_eq_some_iff.mp H
   obtain ⟨t65, A66, H⟩ := H
   replace A66 := Aside0.mk A66
   try dsimp only at H
   have HL77 := Aside0.mk H
   clear H
   refine wp_cond_false rfl ?_
   refine wp_skip ?_
   (try simp only [Exit.then, Exit.inBlock, ↓reduceIte, Nat.reduceEqDiff])
   refine hK46 _ _ ?_
   refine wp_region_lit ?_
   refine wpp fun K_ h_ => ?_; go_simp; refine h_ _ _ ?_; clear h_ K_
   refine wpp fun K_ h_ => ?_; go_simp; refine h_ _ _ ?_; clear h_ K_
   refine wpp fun K_ h_ => ?_; go_simp; refine h_ _ _ ?_; clear h_ K_
   refine step_index eI (T := 2) (wanted_none rfl) rfl (by kernel_rfl) (by kernel_rfl) rfl rfl rfl h33.rd A61.out ?_
   intro ad62 hat he
   have he63 := Aside0.mk he
   have hat64 := Aside0.mk hat
   clear he hat
   simp only [Act.put, nm1, nm2, nm3, i64_w]
   have cl0 := he63.out 0 _ rfl
   rw [addr_add0] at cl0
   refine wpp fun K_ h_ => ?_; go_simp; refine h_ _ _ ?_; clear h_ K_
   clear cl0
   refine step_index eB (T := 4) (wanted_none rfl) rfl (by kernel_rfl) (by kernel_rfl) rfl hl35.out rfl h34.rd A66.out ?_
   intro ad67 hat he
   have he68 := Aside0.mk he
   have hat69 := Aside0.mk hat
   clear he hat
   simp only [Act.put, nm1, nm2, nm3, i64_w]
   have hO0 := Aside0.mk h34
   have lb74 := Aside0.mk hO0.out.lt
   refine step_put eB (T := 4) (u := .bool true) (old := t65) (new := true) 0 rfl rfl rfl hat69.out (addr_add0 _).symm rfl rfl (by kernel_rfl) (by simp [Value.cells, Value.oneCell']) (Nat.le_of_ble_eq_true rfl) rfl hO0.out A66.out ?_
   intro w70 h72 hg
   have hg73 := Aside0.mk hg
   clear hO0 hg
   try simp only [Act.put, nm1, nm2, nm3, i64_w]
   have h75 := h33.grow hg73.out hn36.out
   have hl76 : Aside0 ((repl ((a0).toNat) (false : Bool)).length = (x28.set (t60).toNat true).length) := Aside0.mk (hl35.out.trans (List.length_set ..).symm)
   refine wpList_nil ?_
   (try simp only [Exit.then, Exit.inBlock, ↓reduceIte, Nat.reduceEqDiff])
   refine hK45 _ _ ?_
   refine wp_region_lit ?_
   refine wpp fun K_ h_ => ?_; go_simp; refine h_ _ _ ?_; clear h_ K_
   refine wpp fun K_ h_ => ?_; go_simp; refine h_ _ _ ?_; clear h_ K_
   refine wpp fun K_ h_ => ?_; go_simp; refine h_ _ _ ?_; clear h_ K_
   refine wpList_nil ?_
   (try simp only [Exit.then, Exit.inBlock, ↓reduceIte, Nat.reduceEqDiff])
   refine hK41 _ _ ?_
   go_roundg k37
   case measure => exact Nat.lt_succ_self _
   case rel => exact ⟨wrap64 (x27 + 1), (x28.set (t60).toNat true), (by first | rfl | simp), HL77, ⟨by have := hk38.out; omega⟩, ⟨(hu30.out.grow hg73.out (fun k hk => Nat.le_trans (Nat.le_refl _) ((fun k hk => (lb74.out k hk).1) k hk)))⟩, ⟨(Nat.le_trans ((Nat.le_trans (Nat.le_refl _) hz31.out)) hg73.out.size)⟩, h75, h72, ⟨hl76.out⟩, ⟨(fun k l hk hl => hn36.out k l (blk_eq.symm.trans hk) hl)⟩⟩

set_option maxHeartbeats 40000000 in
set_option maxRecDepth 100000 in
theorem impl_ValuesOf_1.calls (K : Nat) (bf0 : Nat) (f0_0 : Int) (r0 : Bool) (w : World) (hf0 : Blk w bf0 [.int .i64 f0_0] 2) (h : impl_ValuesOf_1.f K f0_0 = some (r0)) :
    Calls Try.prog 112 #[.pointer (some ⟨bf0, 0, none⟩)] w fun e w' => e = .returned (.bool r0) ∧ Up w w' := by
 have H : (((impl_isIndex.f K f0_0).bind fun t3 => some t3) : Option (Bool)) = some (r0) := h
 clear h
 replace H := Option.bind_eq_some_iff.mp H
 obtain ⟨t3, A4, H⟩ := H
 replace A4 := Aside0.mk A4
 try dsimp only at H
 obtain rfl := Option.some.inj H
 have ltbf0 := Aside0.mk hf0.lt
 go_enter Try.func112, Try.ntmps112
 refine wp_hide (fun Qf hQf => ?_)
 refine wp_seq_k (fun K1 hK1 => ?_)
 refine wp_region_lit ?_
 refine wpp fun K_ h_ => ?_; go_simp; refine h_ _ _ ?_; clear h_ K_
 refine wpList_nil ?_
 (try simp only [Exit.then, Exit.inBlock, ↓reduceIte, Nat.reduceEqDiff])
 refine hK1 _ _ ?_
 refine wp_seq_k (fun K2 hK2 => ?_)
 refine wp_region_lit ?_
 have cl0 := hf0.cell (o := 0) rfl
 refine wpp fun K_ h_ => ?_; go_simp; refine h_ _ _ ?_; clear h_ K_
 clear cl0
 refine step_call (wanted_none rfl) (by go_simp <;> rfl) (impl_isIndex.calls K f0_0 t3 w  A4.out) ?_
 rintro e w5 ⟨rfl, hu⟩
 have hu6 := Aside0.mk hu
 clear hu
 refine ⟨_, rfl, ?_⟩
 simp only [Act.put, nm1, nm2, nm3, i64_w]
 refine wpp fun K_ h_ => ?_; go_simp; refine h_ _ _ ?_; clear h_ K_
 refine wpList_nil ?_
 (try simp only [Exit.then, Exit.inBlock, ↓reduceIte, Nat.reduceEqDiff])
 refine hK2 _ _ ?_
 refine wp_ret ?_
 (try simp only [Exit.then, Exit.inBlock, ↓reduceIte, Nat.reduceEqDiff])
 refine hQf _ _ _ ?_
 exact bodyPost_ret (v := .bool t3) (by first | rfl | (simp [results, Try.results112, go_sem]; done) | (simp [results, Try.results112, go_sem]; rfl)) rfl ⟨rfl, hu6.out⟩

set_option maxHeartbeats 40000000 in
set_option maxRecDepth 100000 in
theorem impl_asked__impl_ValuesOf_1.calls (K : Nat) (a0 : Int) (bc1_0 : Nat) (c1_0_0 : Int) (r0 : Int) (w : World) (hc1_0 : Blk w bc1_0 [.int .i64 c1_0_0] 2) (h : impl_asked__impl_ValuesOf_1.f K a0 c1_0_0 = some (r0)) :
    Calls Try.prog 67 #[.int .i64 a0, .func (.func 112) #[] #[.pointer (some ⟨bc1_0, 0, none⟩)]] w fun e w' => e = .returned (.int .i64 r0) ∧ Up w w' := by
 have H : (((impl_IsField.f K a0).bind fun t4 => (if t4 = true then ((impl_ValuesOf_1.f K c1_0_0).bind fun t11 => (if t11 = true then some 0 else some 2)) else some 1)) : Option (Int)) = some (r0) := h
 clear h
 replace H := Option.bind_eq_some_iff.mp H
 obtain ⟨t4, A5, H⟩ := H
 replace A5 := Aside0.mk A5
 try dsimp only at H
 have ltbc1_0 := Aside0.mk hc1_0.lt
 go_enter Try.func67, Try.ntmps67
 refine wp_hide (fun Qf hQf => ?_)
 refine wp_seq_k (fun K1 hK1 => ?_)
 refine wp_region_lit ?_
 refine wpp fun K_ h_ => ?_; go_simp; refine h_ _ _ ?_; clear h_ K_
 refine wpList_nil ?_
 (try simp only [Exit.then, Exit.inBlock, ↓reduceIte, Nat.reduceEqDiff])
 refine hK1 _ _ ?_
 refine wp_seq_k (fun K2 hK2 => ?_)
 refine wp_seq_k (fun K3 hK3 => ?_)
 refine wp_region_lit ?_
 refine wpp fun K_ h_ => ?_; go_simp; refine h_ _ _ ?_; clear h_ K_
 refine step_call (wanted_none rfl) (by go_simp <;> rfl) (impl_IsField.calls K a0 t4 w  A5.out) ?_
 rintro e w6 ⟨rfl, hu⟩
 have hu7 := Aside0.mk hu
 clear hu
 refine ⟨_, rfl, ?_⟩
 simp only [Act.put, nm1, nm2, nm3, i64_w]
 refine wpp fun K_ h_ => ?_; go_simp; refine h_ _ _ ?_; clear h_ K_
 refine wpList_nil ?_
 (try simp only [Exit.then, Exit.inBlock, ↓reduceIte, Nat.reduceEqDiff])
 refine hK3 _ _ ?_
 by_cases c8 : (t4) = true
 rotate_left
 ·
  rw [if_neg c8] at H; replace c8 := Bool.eq_false_iff.mpr c8
  subst c8
  obtain rfl := Option.some.inj H
  refine wp_cond_true rfl ?_
  refine wp_seq_k (fun K18 hK18 => ?_)
  refine wp_region_lit ?_
  refine wpp fun K_ h_ => ?_; go_simp; refine h_ _ _ ?_; clear h_ K_
  refine wpList_nil ?_
  (try simp only [Exit.then, Exit.inBlock, ↓reduceIte, Nat.reduceEqDiff])
  refine hK18 _ _ ?_
  refine wp_ret ?_
  (try simp only [Exit.then, Exit.inBlock, ↓reduceIte, Nat.reduceEqDiff])
  refine hQf _ _ _ ?_
  exact bodyPost_ret (v := .int .i64 1) (by first | rfl | (simp [results, Try.results67, go_sem]; done) | (simp [results, Try.results67, go_sem]; rfl)) rfl ⟨rfl, hu7.out⟩
 rw [if_pos c8] at H
 subst c8
 replace H := Option.bind_eq_some_iff.mp H
 obtain ⟨t11, A12, H⟩ := H
 replace A12 := Aside0.mk A12
 try dsimp only at H
 refine wp_cond_false rfl ?_
 refine wp_skip ?_
 (try simp only [Exit.then, Exit.inBlock, ↓reduceIte, Nat.reduceEqDiff])
 refine hK2 _ _ ?_
 refine wp_seq_k (fun K9 hK9 => ?_)
 refine wp_seq_k (fun K10 hK10 => ?_)
 refine wp_region_lit ?_
 refine wpp fun K_ h_ => ?_; go_simp; refine h_ _ _ ?_; clear h_ K_
 refine step_call (wanted_none rfl) (by go_simp <;> rfl) (impl_ValuesOf_1.calls K bc1_0 c1_0_0 t11 w6 (hc1_0.up hu7.out) A12.out) ?_
 rintro e w13 ⟨rfl, hu⟩
 have hu14 := Aside0.mk hu
 clear hu
 refine ⟨_, rfl, ?_⟩
 simp only [Act.put, nm1, nm2, nm3, i64_w]
 refine wpp fun K_ h_ => ?_; go_simp; refine h_ _ _ ?_; clear h_ K_
 refine wpList_nil ?_
 (try simp only [Exit.then, Exit.inBlock, ↓reduceIte, Nat.reduceEqDiff])
 refine hK10 _ _ ?_
 by_cases c15 : (t11) = true
 rotate_left
 ·
  rw [if_neg c15] at H; replace c15 := Bool.eq_false_iff.mpr c15
  subst c15
  obtain rfl := Option.some.inj H
  refine wp_cond_true rfl ?_
  refine wp_seq_k (fun K17 hK17 => ?_)
  refine wp_region_lit ?_
  refine wpp fun K_ h_ => ?_; go_simp; refine h_ _ _ ?_; clear h_ K_
  refine wpList_nil ?_
  (try simp only [Exit.then, Exit.inBlock, ↓reduceIte, Nat.reduceEqDiff])
  refine hK17 _ _ ?_
  refine wp_ret ?_
  (try simp only [Exit.then, Exit.inBlock, ↓reduceIte, Nat.reduceEqDiff])
  refine hQf _ _ _ ?_
  exact bodyPost_ret (v := .int .i64 2) (by first | rfl | (simp [results, Try.results67, go_sem]; done) | (simp [results, Try.results67, go_sem]; rfl)) rfl ⟨rfl, (hu7.out.trans hu14.out)⟩
 rw [if_pos c15] at H
 subst c15
 obtain rfl := Option.some.inj H
 refine wp_cond_false rfl ?_
 refine wp_skip ?_
 (try simp only [Exit.then, Exit.inBlock, ↓reduceIte, Nat.reduceEqDiff])
 refine hK9 _ _ ?_
 refine wp_seq_k (fun K16 hK16 => ?_)
 refine wp_region_lit ?_
 refine wpp fun K_ h_ => ?_; go_simp; refine h_ _ _ ?_; clear h_ K_
 refine wpList_nil ?_
 (try simp only [Exit.then, Exit.inBlock, ↓reduceIte, Nat.reduceEqDiff])
 refine hK16 _ _ ?_
 refine wp_ret ?_
 (try simp only [Exit.then, Exit.inBlock, ↓reduceIte, Nat.reduceEqDiff])
 refine hQf _ _ _ ?_
 exact bodyPost_ret (v := .int .i64 0) (by first | rfl | (simp [results, Try.results67, go_sem]; done) | (simp [results, Try.results67, go_sem]; rfl)) rfl ⟨rfl, (hu7.out.trans hu14.out)⟩

set_option maxHeartbeats 40000000 in
set_option maxRecDepth 100000 in
theorem impl_ValuesOf.calls (K : Nat) (a0 : Int) (a1 : Int) (r0 : List (Int)) (r1 : Int) (w : World)  (h : impl_ValuesOf.f K a0 a1 = some (r0, r1)) :
    Calls Try.prog 29 #[.int .i64 a0, .int .i64 a1] w fun e w' => ∃ (Ar0 : Option Addr) (cr0 : Nat), e = .returned (.tuple #[.slice Ar0 r0.length cr0, .int .i64 r1]) ∧ Own eI 2 w' w.heap.size (.slice Ar0 r0.length cr0) r0 ∧ Up w w' := by
 have H : (((impl_asked__impl_ValuesOf_1.f K a0 a1).bind fun t7 => (if (t7 == 0) = true then ((impl_valuesOf.f K a0 a1).bind fun t14 => some (t14, 0)) else some ([], t7))) : Option (List (Int) × Int)) = some (r0, r1) := h
 clear h
 replace H := Option.bind_eq_some_iff.mp H
 obtain ⟨t7, A8, H⟩ := H
 replace A8 := Aside0.mk A8
 try dsimp only at H
 go_enter Try.func29, Try.ntmps29
 refine wp_hide (fun Qf hQf => ?_)
 refine wp_seq_k (fun K1 hK1 => ?_)
 refine wp_region_lit ?_
 refine step_new (cs := [.int .i64 a1]) (T := 2) (f := fun b => .pointer (some ⟨b, 0, none⟩)) rfl (by go_simp <;> rfl) ?_
 intro b2 w3 hu lb hb2
 simp only [Act.put, nm1, nm2, nm3, i64_w]
 have lbb2 := Aside0.mk lb
 have ltb2 := Aside0.mk hb2.lt
 clear lb
 have hu4 := Aside0.mk hu
 clear hu
 refine wpp fun K_ h_ => ?_; go_simp; refine h_ _ _ ?_; clear h_ K_
 refine wpp fun K_ h_ => ?_; go_simp; refine h_ _ _ ?_; clear h_ K_
 refine wpList_nil ?_
 (try simp only [Exit.then, Exit.inBlock, ↓reduceIte, Nat.reduceEqDiff])
 refine hK1 _ _ ?_
 refine wp_seq_k (fun K5 hK5 => ?_)
 refine wp_seq_k (fun K6 hK6 => ?_)
 refine wp_region_lit ?_
 refine wpp fun K_ h_ => ?_; go_simp; refine h_ _ _ ?_; clear h_ K_
 refine wpp fun K_ h_ => ?_; go_simp; refine h_ _ _ ?_; clear h_ K_
 refine step_call (wanted_none rfl) (by go_simp <;> rfl) (impl_asked__impl_ValuesOf_1.calls K a0 b2 a1 t7 w3 hb2 A8.out) ?_
 rintro e w9 ⟨rfl, hu⟩
 have hu10 := Aside0.mk hu
 clear hu
 refine ⟨_, rfl, ?_⟩
 simp only [Act.put, nm1, nm2, nm3, i64_w]
 refine wpp fun K_ h_ => ?_; go_simp; refine h_ _ _ ?_; clear h_ K_
 refine wpList_nil ?_
 (try simp only [Exit.then, Exit.inBlock, ↓reduceIte, Nat.reduceEqDiff])
 refine hK6 _ _ ?_
 refine wp_seq_k (fun K11 hK11 => ?_)
 refine wp_region_lit ?_
 refine wpp fun K_ h_ => ?_; go_simp; refine h_ _ _ ?_; clear h_ K_
 refine wpp fun K_ h_ => ?_; go_simp; refine h_ _ _ ?_; clear h_ K_
 refine wpList_nil ?_
 (try simp only [Exit.then, Exit.inBlock, ↓reduceIte, Nat.reduceEqDiff])
 refine hK11 _ _ ?_
 by_cases c12 : (t7 == 0) = true
 rotate_left
 ·
  rw [if_neg c12] at H; replace c12 := Bool.eq_false_iff.mpr c12
  have c12n : (t7 != 0) = true := by rw [bne, c12]; rfl
  have c12p : ¬ t7 = 0 := fun e => by simp [e] at c12
  simp only [Option.some.injEq, Prod.mk.injEq] at H
  obtain ⟨rfl, rfl⟩ := H
  try simp only [c12, c12n, Bool.not_true, Bool.not_false]
  refine wp_cond_true rfl ?_
  refine wp_seq_k (fun K20 hK20 => ?_)
  refine wp_region_lit ?_
  refine wpp fun K_ h_ => ?_; go_simp; refine h_ _ _ ?_; clear h_ K_
  refine wpp fun K_ h_ => ?_; go_simp; refine h_ _ _ ?_; clear h_ K_
  refine wpp fun K_ h_ => ?_; go_simp; refine h_ _ _ ?_; clear h_ K_
  refine wpList_nil ?_
  (try simp only [Exit.then, Exit.inBlock, ↓reduceIte, Nat.reduceEqDiff])
  refine hK20 _ _ ?_
  refine wp_ret ?_
  have h22 : Own eI 2 w9 w9.heap.size (.slice none ([] : List (Int)).length 0) [] := Own.nil
  (try simp only [Exit.then, Exit.inBlock, ↓reduceIte, Nat.reduceEqDiff])
  refine hQf _ _ _ ?_
  exact bodyPost_ret (v := .tuple #[.slice none 0 0, .int .i64 t7]) (by first | rfl | (simp [results, Try.results29, go_sem]; done) | (simp [results, Try.results29, go_sem]; rfl)) rfl ⟨none, 0, rfl, (h22.lower ((Nat.le_trans (hu4.out.size) hu10.out.size))), (hu4.out.trans hu10.out)⟩
 rw [if_pos c12] at H
 have c12n : (t7 != 0) = false := by rw [bne, c12]; rfl
 replace H := Option.bind_eq_some_iff.mp H
 obtain ⟨t14, A17, H⟩ := H
 replace A17 := Aside0.mk A17
 try dsimp only at H
 simp only [Option.some.injEq, Prod.mk.injEq] at H
 obtain ⟨rfl, rfl⟩ := H
 try simp only [c12, c12n, Bool.not_true, Bool.not_false]
 refine wp_cond_false rfl ?_
 refine wp_skip ?_
 (try simp only [Exit.then, Exit.inBlock, ↓reduceIte, Nat.reduceEqDiff])
 refine hK5 _ _ ?_
 refine wp_seq_k (fun K13 hK13 => ?_)
 refine wp_region_lit ?_
 refine wpp fun K_ h_ => ?_; go_simp; refine h_ _ _ ?_; clear h_ K_
 have cl0 := (hb2.up hu10.out).cell (o := 0) rfl
 refine wpp fun K_ h_ => ?_; go_simp; refine h_ _ _ ?_; clear h_ K_
 clear cl0
 refine step_call (wanted_none rfl) (by go_simp <;> rfl) (impl_valuesOf.calls K a0 a1 t14 w9  A17.out) ?_
 rintro e w18 ⟨P15, q16, rfl, ht14, hu⟩
 have hu19 := Aside0.mk hu
 clear hu
 refine ⟨_, rfl, ?_⟩
 simp only [Act.put, nm1, nm2, nm3, i64_w]
 refine wpp fun K_ h_ => ?_; go_simp; refine h_ _ _ ?_; clear h_ K_
 refine wpp fun K_ h_ => ?_; go_simp; refine h_ _ _ ?_; clear h_ K_
 refine wpList_nil ?_
 (try simp only [Exit.then, Exit.inBlock, ↓reduceIte, Nat.reduceEqDiff])
 refine hK13 _ _ ?_
 refine wp_ret ?_
 (try simp only [Exit.then, Exit.inBlock, ↓reduceIte, Nat.reduceEqDiff])
 refine hQf _ _ _ ?_
 exact bodyPost_ret (v := .tuple #[.slice P15 t14.length q16, .int .i64 0]) (by first | rfl | (simp [results, Try.results29, go_sem]; done) | (simp [results, Try.results29, go_sem]; rfl)) rfl ⟨P15, q16, rfl, (ht14.lower ((Nat.le_trans (hu4.out.size) hu10.out.size))), ((hu4.out.trans hu10.out).trans hu19.out)⟩

set_option maxHeartbeats 40000000 in
set_option maxRecDepth 100000 in
theorem spec_ValuesOf.calls (K : Nat) (a0 : Int) (a1 : Int) (r0 : List (Int)) (r1 : Int) (w : World)  (h : spec_ValuesOf.f K a0 a1 = some (r0, r1)) :
    Calls Try.prog 33 #[.int .i64 a0, .int .i64 a1] w fun e w' => ∃ (Ar0 : Option Addr) (cr0 : Nat), e = .returned (.tuple #[.slice Ar0 r0.length cr0, .int .i64 r1]) ∧ Own eI 2 w' w.heap.size (.slice Ar0 r0.length cr0) r0 ∧ Up w w' := by
 have H : (((spec_l05Code.f K a0 a1 ([])).bind fun t4 => (if (t4 == 0) = true then ((spec_l05Values.f K a0 a1).bind fun t11 => some (t11, 0)) else some ([], t4))) : Option (List (Int) × Int)) = some (r0, r1) := h
 clear h
 replace H := Option.bind_eq_some_iff.mp H
 obtain ⟨t4, A5, H⟩ := H
 replace A5 := Aside0.mk A5
 try dsimp only at H
 go_enter Try.func33, Try.ntmps33
 refine wp_hide (fun Qf hQf => ?_)
 refine wp_seq_k (fun K1 hK1 => ?_)
 refine wp_region_lit ?_
 refine wpp fun K_ h_ => ?_; go_simp; refine h_ _ _ ?_; clear h_ K_
 refine wpp fun K_ h_ => ?_; go_simp; refine h_ _ _ ?_; clear h_ K_
 refine wpList_nil ?_
 (try simp only [Exit.then, Exit.inBlock, ↓reduceIte, Nat.reduceEqDiff])
 refine hK1 _ _ ?_
 refine wp_seq_k (fun K2 hK2 => ?_)
 refine wp_seq_k (fun K3 hK3 => ?_)
 refine wp_region_lit ?_
 refine wpp fun K_ h_ => ?_; go_simp; refine h_ _ _ ?_; clear h_ K_
 refine wpp fun K_ h_ => ?_; go_simp; refine h_ _ _ ?_; clear h_ K_
 refine step_call (wanted_none rfl) (by go_simp <;> rfl) (spec_l05Code.calls K a0 a1 none 0 ([]) t4 w (Rd.nil) A5.out) ?_
 rintro e w6 ⟨rfl, hu⟩
 have hu7 := Aside0.mk hu
 clear hu
 refine ⟨_, rfl, ?_⟩
 simp only [Act.put, nm1, nm2, nm3, i64_w]
 refine wpp fun K_ h_ => ?_; go_simp; refine h_ _ _ ?_; clear h_ K_
 refine wpList_nil ?_
 (try simp only [Exit.then, Exit.inBlock, ↓reduceIte, Nat.reduceEqDiff])
 refine hK3 _ _ ?_
 refine wp_seq_k (fun K8 hK8 => ?_)
 refine wp_region_lit ?_
 refine wpp fun K_ h_ => ?_; go_simp; refine h_ _ _ ?_; clear h_ K_
 refine wpp fun K_ h_ => ?_; go_simp; refine h_ _ _ ?_; clear h_ K_
 refine wpList_nil ?_
 (try simp only [Exit.then, Exit.inBlock, ↓reduceIte, Nat.reduceEqDiff])
 refine hK8 _ _ ?_
 by_cases c9 : (t4 == 0) = true
 rotate_left
 ·
  rw [if_neg c9] at H; replace c9 := Bool.eq_false_iff.mpr c9
  have c9n : (t4 != 0) = true := by rw [bne, c9]; rfl
  have c9p : ¬ t4 = 0 := fun e => by simp [e] at c9
  simp only [Option.some.injEq, Prod.mk.injEq] at H
  obtain ⟨rfl, rfl⟩ := H
  try simp only [c9, c9n, Bool.not_true, Bool.not_false]
  refine wp_cond_true rfl ?_
  refine wp_seq_k (fun K17 hK17 => ?_)
  refine wp_region_lit ?_
  refine wpp fun K_ h_ => ?_; go_simp; refine h_ _ _ ?_; clear h_ K_
  refine wpp fun K_ h_ => ?_; go_simp; refine h_ _ _ ?_; clear h_ K_
  refine wpp fun K_ h_ => ?_; go_simp; refine h_ _ _ ?_; clear h_ K_
  refine wpList_nil ?_
  (try simp only [Exit.then, Exit.inBlock, ↓reduceIte, Nat.reduceEqDiff])
  refine hK17 _ _ ?_
  refine wp_ret ?_
  have h19 : Own eI 2 w6 w6.heap.size (.slice none ([] : List (Int)).length 0) [] := Own.nil
  (try simp only [Exit.then, Exit.inBlock, ↓reduceIte, Nat.reduceEqDiff])
  refine hQf _ _ _ ?_
  exact bodyPost_ret (v := .tuple #[.slice none 0 0, .int .i64 t4]) (by first | rfl | (simp [results, Try.results33, go_sem]; done) | (simp [results, Try.results33, go_sem]; rfl)) rfl ⟨none, 0, rfl, (h19.lower (hu7.out.size)), hu7.out⟩
 rw [if_pos c9] at H
 have c9n : (t4 != 0) = false := by rw [bne, c9]; rfl
 replace H := Option.bind_eq_some_iff.mp H
 obtain ⟨t11, A14, H⟩ := H
 replace A14 := Aside0.mk A14
 try dsimp only at H
 simp only [Option.some.injEq, Prod.mk.injEq] at H
 obtain ⟨rfl, rfl⟩ := H
 try simp only [c9, c9n, Bool.not_true, Bool.not_false]
 refine wp_cond_false rfl ?_
 refine wp_skip ?_
 (try simp only [Exit.then, Exit.inBlock, ↓reduceIte, Nat.reduceEqDiff])
 refine hK2 _ _ ?_
 refine wp_seq_k (fun K10 hK10 => ?_)
 refine wp_region_lit ?_
 refine wpp fun K_ h_ => ?_; go_simp; refine h_ _ _ ?_; clear h_ K_
 refine wpp fun K_ h_ => ?_; go_simp; refine h_ _ _ ?_; clear h_ K_
 refine step_call (wanted_none rfl) (by go_simp <;> rfl) (spec_l05Values.calls K a0 a1 t11 w6  A14.out) ?_
 rintro e w15 ⟨P12, q13, rfl, ht11, hu⟩
 have hu16 := Aside0.mk hu
 clear hu
 refine ⟨_, rfl, ?_⟩
 simp only [Act.put, nm1, nm2, nm3, i64_w]
 refine wpp fun K_ h_ => ?_; go_simp; refine h_ _ _ ?_; clear h_ K_
 refine wpp fun K_ h_ => ?_; go_simp; refine h_ _ _ ?_; clear h_ K_
 refine wpList_nil ?_
 (try simp only [Exit.then, Exit.inBlock, ↓reduceIte, Nat.reduceEqDiff])
 refine hK10 _ _ ?_
 refine wp_ret ?_
 (try simp only [Exit.then, Exit.inBlock, ↓reduceIte, Nat.reduceEqDiff])
 refine hQf _ _ _ ?_
 exact bodyPost_ret (v := .tuple #[.slice P12 t11.length q13, .int .i64 0]) (by first | rfl | (simp [results, Try.results33, go_sem]; done) | (simp [results, Try.results33, go_sem]; rfl)) rfl ⟨P12, q13, rfl, (ht11.lower (hu7.out.size)), (hu7.out.trans hu16.out)⟩

set_option maxHeartbeats 40000000 in
set_option maxRecDepth 100000 in
theorem impl_OrderOfSpread_1.calls (K : Nat) (bf0 : Nat) (f0_0 : Int) (bf1 : Nat) (f1_0 : Int) (r0 : Bool) (w : World) (hf0 : Blk w bf0 [.int .i64 f0_0] 2) (hf1 : Blk w bf1 [.int .i64 f1_0] 2) (h : impl_OrderOfSpread_1.f K f0_0 f1_0 = some (r0)) :
    Calls Try.prog 103 #[.pointer (some ⟨bf0, 0, none⟩), .pointer (some ⟨bf1, 0, none⟩)] w fun e w' => e = .returned (.bool r0) ∧ Up w w' := by
 have H : (((impl_isNumber.f K f0_0 f1_0).bind fun t3 => some t3) : Option (Bool)) = some (r0) := h
 clear h
 replace H := Option.bind_eq_some_iff.mp H
 obtain ⟨t3, A4, H⟩ := H
 replace A4 := Aside0.mk A4
 try dsimp only at H
 obtain rfl := Option.some.inj H
 have ltbf0 := Aside0.mk hf0.lt
 have ltbf1 := Aside0.mk hf1.lt
 go_enter Try.func103, Try.ntmps103
 refine wp_hide (fun Qf hQf => ?_)
 refine wp_seq_k (fun K1 hK1 => ?_)
 refine wp_region_lit ?_
 refine wpp fun K_ h_ => ?_; go_simp; refine h_ _ _ ?_; clear h_ K_
 refine wpList_nil ?_
 (try simp only [Exit.then, Exit.inBlock, ↓reduceIte, Nat.reduceEqDiff])
 refine hK1 _ _ ?_
 refine wp_seq_k (fun K2 hK2 => ?_)
 refine wp_region_lit ?_
 have cl0 := hf0.cell (o := 0) rfl
 refine wpp fun K_ h_ => ?_; go_simp; refine h_ _ _ ?_; clear h_ K_
 clear cl0
 have cl0 := hf1.cell (o := 0) rfl
 refine wpp fun K_ h_ => ?_; go_simp; refine h_ _ _ ?_; clear h_ K_
 clear cl0
 refine step_call (wanted_none rfl) (by go_simp <;> rfl) (impl_isNumber.calls K f0_0 f1_0 t3 w  A4.out) ?_
 rintro e w5 ⟨rfl, hu⟩
 have hu6 := Aside0.mk hu
 clear hu
 refine ⟨_, rfl, ?_⟩
 simp only [Act.put, nm1, nm2, nm3, i64_w]
 refine wpp fun K_ h_ => ?_; go_simp; refine h_ _ _ ?_; clear h_ K_
 refine wpList_nil ?_
 (try simp only [Exit.then, Exit.inBlock, ↓reduceIte, Nat.reduceEqDiff])
 refine hK2 _ _ ?_
 refine wp_ret ?_
 (try simp only [Exit.then, Exit.inBlock, ↓reduceIte, Nat.reduceEqDiff])
 refine hQf _ _ _ ?_
 exact bodyPost_ret (v := .bool t3) (by first | rfl | (simp [results, Try.results103, go_sem]; done) | (simp [results, Try.results103, go_sem]; rfl)) rfl ⟨rfl, hu6.out⟩

set_option maxHeartbeats 40000000 in
set_option maxRecDepth 100000 in
theorem impl_asked__impl_OrderOfSpread_1.calls (K : Nat) (a0 : Int) (bc1_0 : Nat) (c1_0_0 : Int) (bc1_1 : Nat) (c1_1_0 : Int) (r0 : Int) (w : World) (hc1_0 : Blk w bc1_0 [.int .i64 c1_0_0] 2) (hc1_1 : Blk w bc1_1 [.int .i64 c1_1_0] 2) (h : impl_asked__impl_OrderOfSpread_1.f K a0 c1_0_0 c1_1_0 = some (r0)) :
    Calls Try.prog 67 #[.int .i64 a0, .func (.func 103) #[] #[.pointer (some ⟨bc1_0, 0, none⟩), .pointer (some ⟨bc1_1, 0, none⟩)]] w fun e w' => e = .returned (.int .i64 r0) ∧ Up w w' := by
 have H : (((impl_IsField.f K a0).bind fun t4 => (if t4 = true then ((impl_OrderOfSpread_1.f K c1_0_0 c1_1_0).bind fun t11 => (if t11 = true then some 0 else some 2)) else some 1)) : Option (Int)) = some (r0) := h
 clear h
 replace H := Option.bind_eq_some_iff.mp H
 obtain ⟨t4, A5, H⟩ := H
 replace A5 := Aside0.mk A5
 try dsimp only at H
 have ltbc1_0 := Aside0.mk hc1_0.lt
 have ltbc1_1 := Aside0.mk hc1_1.lt
 go_enter Try.func67, Try.ntmps67
 refine wp_hide (fun Qf hQf => ?_)
 refine wp_seq_k (fun K1 hK1 => ?_)
 refine wp_region_lit ?_
 refine wpp fun K_ h_ => ?_; go_simp; refine h_ _ _ ?_; clear h_ K_
 refine wpList_nil ?_
 (try simp only [Exit.then, Exit.inBlock, ↓reduceIte, Nat.reduceEqDiff])
 refine hK1 _ _ ?_
 refine wp_seq_k (fun K2 hK2 => ?_)
 refine wp_seq_k (fun K3 hK3 => ?_)
 refine wp_region_lit ?_
 refine wpp fun K_ h_ => ?_; go_simp; refine h_ _ _ ?_; clear h_ K_
 refine step_call (wanted_none rfl) (by go_simp <;> rfl) (impl_IsField.calls K a0 t4 w  A5.out) ?_
 rintro e w6 ⟨rfl, hu⟩
 have hu7 := Aside0.mk hu
 clear hu
 refine ⟨_, rfl, ?_⟩
 simp only [Act.put, nm1, nm2, nm3, i64_w]
 refine wpp fun K_ h_ => ?_; go_simp; refine h_ _ _ ?_; clear h_ K_
 refine wpList_nil ?_
 (try simp only [Exit.then, Exit.inBlock, ↓reduceIte, Nat.reduceEqDiff])
 refine hK3 _ _ ?_
 by_cases c8 : (t4) = true
 rotate_left
 ·
  rw [if_neg c8] at H; replace c8 := Bool.eq_false_iff.mpr c8
  subst c8
  obtain rfl := Option.some.inj H
  refine wp_cond_true rfl ?_
  refine wp_seq_k (fun K18 hK18 => ?_)
  refine wp_region_lit ?_
  refine wpp fun K_ h_ => ?_; go_simp; refine h_ _ _ ?_; clear h_ K_
  refine wpList_nil ?_
  (try simp only [Exit.then, Exit.inBlock, ↓reduceIte, Nat.reduceEqDiff])
  refine hK18 _ _ ?_
  refine wp_ret ?_
  (try simp only [Exit.then, Exit.inBlock, ↓reduceIte, Nat.reduceEqDiff])
  refine hQf _ _ _ ?_
  exact bodyPost_ret (v := .int .i64 1) (by first | rfl | (simp [results, Try.results67, go_sem]; done) | (simp [results, Try.results67, go_sem]; rfl)) rfl ⟨rfl, hu7.out⟩
 rw [if_pos c8] at H
 subst c8
 replace H := Option.bind_eq_some_iff.mp H
 obtain ⟨t11, A12, H⟩ := H
 replace A12 := Aside0.mk A12
 try dsimp only at H
 refine wp_cond_false rfl ?_
 refine wp_skip ?_
 (try simp only [Exit.then, Exit.inBlock, ↓reduceIte, Nat.reduceEqDiff])
 refine hK2 _ _ ?_
 refine wp_seq_k (fun K9 hK9 => ?_)
 refine wp_seq_k (fun K10 hK10 => ?_)
 refine wp_region_lit ?_
 refine wpp fun K_ h_ => ?_; go_simp; refine h_ _ _ ?_; clear h_ K_
 refine step_call (wanted_none rfl) (by go_simp <;> rfl) (impl_OrderOfSpread_1.calls K bc1_0 c1_0_0 bc1_1 c1_1_0 t11 w6 (hc1_0.up hu7.out) (hc1_1.up hu7.out) A12.out) ?_
 rintro e w13 ⟨rfl, hu⟩
 have hu14 := Aside0.mk hu
 clear hu
 refine ⟨_, rfl, ?_⟩
 simp only [Act.put, nm1, nm2, nm3, i64_w]
 refine wpp fun K_ h_ => ?_; go_simp; refine h_ _ _ ?_; clear h_ K_
 refine wpList_nil ?_
 (try simp only [Exit.then, Exit.inBlock, ↓reduceIte, Nat.reduceEqDiff])
 refine hK10 _ _ ?_
 by_cases c15 : (t11) = true
 rotate_left
 ·
  rw [if_neg c15] at H; replace c15 := Bool.eq_false_iff.mpr c15
  subst c15
  obtain rfl := Option.some.inj H
  refine wp_cond_true rfl ?_
  refine wp_seq_k (fun K17 hK17 => ?_)
  refine wp_region_lit ?_
  refine wpp fun K_ h_ => ?_; go_simp; refine h_ _ _ ?_; clear h_ K_
  refine wpList_nil ?_
  (try simp only [Exit.then, Exit.inBlock, ↓reduceIte, Nat.reduceEqDiff])
  refine hK17 _ _ ?_
  refine wp_ret ?_
  (try simp only [Exit.then, Exit.inBlock, ↓reduceIte, Nat.reduceEqDiff])
  refine hQf _ _ _ ?_
  exact bodyPost_ret (v := .int .i64 2) (by first | rfl | (simp [results, Try.results67, go_sem]; done) | (simp [results, Try.results67, go_sem]; rfl)) rfl ⟨rfl, (hu7.out.trans hu14.out)⟩
 rw [if_pos c15] at H
 subst c15
 obtain rfl := Option.some.inj H
 refine wp_cond_false rfl ?_
 refine wp_skip ?_
 (try simp only [Exit.then, Exit.inBlock, ↓reduceIte, Nat.reduceEqDiff])
 refine hK9 _ _ ?_
 refine wp_seq_k (fun K16 hK16 => ?_)
 refine wp_region_lit ?_
 refine wpp fun K_ h_ => ?_; go_simp; refine h_ _ _ ?_; clear h_ K_
 refine wpList_nil ?_
 (try simp only [Exit.then, Exit.inBlock, ↓reduceIte, Nat.reduceEqDiff])
 refine hK16 _ _ ?_
 refine wp_ret ?_
 (try simp only [Exit.then, Exit.inBlock, ↓reduceIte, Nat.reduceEqDiff])
 refine hQf _ _ _ ?_
 exact bodyPost_ret (v := .int .i64 0) (by first | rfl | (simp [results, Try.results67, go_sem]; done) | (simp [results, Try.results67, go_sem]; rfl)) rfl ⟨rfl, (hu7.out.trans hu14.out)⟩

set_option maxHeartbeats 40000000 in
set_option maxRecDepth 100000 in
theorem impl_orderOf.calls (K : Nat) (a0 : Int) (a1 : Int) (r0 : Int) (r1 : Int) (w : World)  (h : impl_orderOf.f K a0 a1 = some (r0, r1)) :
    Calls Try.prog 104 #[.int .i64 a0, .int .i64 a1] w fun e w' => e = .returned (.tuple #[.int .i64 r0, .int .i64 r1]) ∧ Up w w' := by
 have H : (((impl_spreads.f K a0 (wrap64 ((wrap64 ((wrap64 (2 * a0)) * a0)) + 2)) a1).bind fun t3 => (impl_orderOf.l0 K a1 t3 K 0 1)) : Option (Int × Int)) = some (r0, r1) := h
 clear h
 replace H := Option.bind_eq_some_iff.mp H
 obtain ⟨t3, A6, H⟩ := H
 replace A6 := Aside0.mk A6
 try dsimp only at H
 go_enter Try.func104, Try.ntmps104
 refine wp_hide (fun Qf hQf => ?_)
 refine wp_seq_k (fun K1 hK1 => ?_)
 refine wp_region_lit ?_
 refine wpp fun K_ h_ => ?_; go_simp; refine h_ _ _ ?_; clear h_ K_
 refine wpp fun K_ h_ => ?_; go_simp; refine h_ _ _ ?_; clear h_ K_
 refine wpList_nil ?_
 (try simp only [Exit.then, Exit.inBlock, ↓reduceIte, Nat.reduceEqDiff])
 refine hK1 _ _ ?_
 refine wp_seq_k (fun K2 hK2 => ?_)
 refine wp_region_lit ?_
 refine wpp fun K_ h_ => ?_; go_simp; refine h_ _ _ ?_; clear h_ K_
 refine wpp fun K_ h_ => ?_; go_simp; refine h_ _ _ ?_; clear h_ K_
 refine wpp fun K_ h_ => ?_; go_simp; refine h_ _ _ ?_; clear h_ K_
 refine wpp fun K_ h_ => ?_; go_simp; refine h_ _ _ ?_; clear h_ K_
 refine wpp fun K_ h_ => ?_; go_simp; refine h_ _ _ ?_; clear h_ K_
 refine wpp fun K_ h_ => ?_; go_simp; refine h_ _ _ ?_; clear h_ K_
 refine wpp fun K_ h_ => ?_; go_simp; refine h_ _ _ ?_; clear h_ K_
 refine step_call (wanted_none rfl) (by go_simp <;> rfl) (impl_spreads.calls K a0 (wrap64 ((wrap64 ((wrap64 (2 * a0)) * a0)) + 2)) a1 t3 w  A6.out) ?_
 rintro e w7 ⟨P4, q5, rfl, ht3, hu⟩
 have hu8 := Aside0.mk hu
 clear hu
 refine ⟨_, rfl, ?_⟩
 simp only [Act.put, nm1, nm2, nm3, i64_w]
 refine wpp fun K_ h_ => ?_; go_simp; refine h_ _ _ ?_; clear h_ K_
 refine wpList_nil ?_
 (try simp only [Exit.then, Exit.inBlock, ↓reduceIte, Nat.reduceEqDiff])
 refine hK2 _ _ ?_
 refine wp_seq_k (fun K9 hK9 => ?_)
 refine wp_region_lit ?_
 refine wpp fun K_ h_ => ?_; go_simp; refine h_ _ _ ?_; clear h_ K_
 refine wpList_nil ?_
 (try simp only [Exit.then, Exit.inBlock, ↓reduceIte, Nat.reduceEqDiff])
 refine hK9 _ _ ?_
 refine wp_seq_k (fun K10 hK10 => ?_)
 refine wp_seq_k (fun K11 hK11 => ?_)
 refine wp_region_lit ?_
 refine wpp fun K_ h_ => ?_; go_simp; refine h_ _ _ ?_; clear h_ K_
 refine wpList_nil ?_
 (try simp only [Exit.then, Exit.inBlock, ↓reduceIte, Nat.reduceEqDiff])
 refine hK11 _ _ ?_
 refine wp_block ?_
 have HL17 := Aside0.mk H
 clear H
 go_loopg [7, 8] K (fun kq v7 v8 w' => ∃ (x12 : Int) (x13 : Int), v7 = .int .i64 x12 ∧ v8 = .int .i64 x13 ∧ Aside0 (impl_orderOf.l0 K a1 t3 kq x12 x13 = some (r0, r1)) ∧ Aside0 (kq ≤ K) ∧ Aside0 (Up w7 w') ∧ Aside0 (w7.heap.size ≤ w'.heap.size))
 case atStart => exact ⟨0, 1, (by first | rfl | simp), (by first | rfl | simp), HL17, ⟨Nat.le_refl _⟩, ⟨(Up.refl _)⟩, ⟨Nat.le_refl _⟩⟩
 case round =>
  rename_i J21 K22 hJ21 hK22
  obtain ⟨x12, x13, rfl, rfl, HL20, hk19, hu15, hz16⟩ := hrel
  obtain ⟨w14, rfl⟩ : ∃ wo : World, wo = wr := ⟨_, rfl⟩
  obtain ⟨k18, rfl⟩ | rfl : (∃ k, gk = k + 1) ∨ gk = 0 := by rcases gk with _ | k; exact .inr rfl; exact .inl ⟨k, rfl⟩
  case inr => exact absurd HL20.out (by simp [impl_orderOf.l0])
  have H := HL20.out
  clear HL20
  rw [impl_orderOf.l0] at H
  refine wp_seq_k (fun K23 hK23 => ?_)
  refine wp_seq_k (fun K24 hK24 => ?_)
  refine wp_region_lit ?_
  refine wpp fun K_ h_ => ?_; go_simp; refine h_ _ _ ?_; clear h_ K_
  refine wpp fun K_ h_ => ?_; go_simp; refine h_ _ _ ?_; clear h_ K_
  refine wpp fun K_ h_ => ?_; go_simp; refine h_ _ _ ?_; clear h_ K_
  refine wpp fun K_ h_ => ?_; go_simp; refine h_ _ _ ?_; clear h_ K_
  refine wpp fun K_ h_ => ?_; go_simp; refine h_ _ _ ?_; clear h_ K_
  refine wpList_nil ?_
  (try simp only [Exit.then, Exit.inBlock, ↓reduceIte, Nat.reduceEqDiff])
  refine hK24 _ _ ?_
  by_cases c25 : (decide ((wrap64 (x13 + 1)) < (t3.length : Int))) = true
  rotate_left
  ·
   rw [if_neg c25] at H; replace c25 := Bool.eq_false_iff.mpr c25
   simp only [Option.some.injEq, Prod.mk.injEq] at H
   obtain ⟨rfl, rfl⟩ := H
   try simp only [c25, Bool.not_true, Bool.not_false]
   refine wp_cond_false rfl ?_
   refine wp_exit ?_
   (try simp only [Exit.then, Exit.inBlock, ↓reduceIte, Nat.reduceEqDiff])
   refine hK10 _ _ ?_
   refine wp_seq_k (fun K57 hK57 => ?_)
   refine wp_region_lit ?_
   refine wpp fun K_ h_ => ?_; go_simp; refine h_ _ _ ?_; clear h_ K_
   refine wpp fun K_ h_ => ?_; go_simp; refine h_ _ _ ?_; clear h_ K_
   refine wpp fun K_ h_ => ?_; go_simp; refine h_ _ _ ?_; clear h_ K_
   refine wpList_nil ?_
   (try simp only [Exit.then, Exit.inBlock, ↓reduceIte, Nat.reduceEqDiff])
   refine hK57 _ _ ?_
   refine wp_ret ?_
   (try simp only [Exit.then, Exit.inBlock, ↓reduceIte, Nat.reduceEqDiff])
   refine hQf _ _ _ ?_
   exact bodyPost_ret (v := .tuple #[.int .i64 x12, .int .i64 0]) (by first | rfl | (simp [results, Try.results104, go_sem]; done) | (simp [results, Try.results104, go_sem]; rfl)) rfl ⟨rfl, (hu8.out.trans hu15.out)⟩
  rw [if_pos c25] at H
  replace H := Option.bind_eq_some_iff.mp H
  obtain ⟨t29, A30, H⟩ := H
  replace A30 := Aside0.mk A30
  try dsimp only at H
  try simp only [c25, Bool.not_true, Bool.not_false]
  refine wp_cond_true rfl ?_
  refine wp_skip ?_
  (try simp only [Exit.then, Exit.inBlock, ↓reduceIte, Nat.reduceEqDiff])
  refine hK23 _ _ ?_
  refine wp_seq_k (fun K26 hK26 => ?_)
  refine wp_block ?_
  refine wp_seq_k (fun K27 hK27 => ?_)
  refine wp_seq_k (fun K28 hK28 => ?_)
  refine wp_region_lit ?_
  refine wpp fun K_ h_ => ?_; go_simp; refine h_ _ _ ?_; clear h_ K_
  refine wpp fun K_ h_ => ?_; go_simp; refine h_ _ _ ?_; clear h_ K_
  refine step_index eI (T := 2) (wanted_none rfl) rfl (by kernel_rfl) (by kernel_rfl) rfl rfl rfl (ht3.up hu15.out).rd A30.out ?_
  intro ad31 hat he
  have he32 := Aside0.mk he
  have hat33 := Aside0.mk hat
  clear he hat
  simp only [Act.put, nm1, nm2, nm3, i64_w]
  have cl0 := he32.out 0 _ rfl
  rw [addr_add0] at cl0
  refine wpp fun K_ h_ => ?_; go_simp; refine h_ _ _ ?_; clear h_ K_
  clear cl0
  refine wpp fun K_ h_ => ?_; go_simp; refine h_ _ _ ?_; clear h_ K_
  refine wpList_nil ?_
  (try simp only [Exit.then, Exit.inBlock, ↓reduceIte, Nat.reduceEqDiff])
  refine hK28 _ _ ?_
  by_cases c34 : (t29 == 0) = true
  rotate_left
  ·
   rw [if_neg c34] at H; replace c34 := Bool.eq_false_iff.mpr c34
   have c34n : (t29 != 0) = true := by rw [bne, c34]; rfl
   have c34p : ¬ t29 = 0 := fun e => by simp [e] at c34
   have HL56 := Aside0.mk H
   clear H
   try simp only [c34, c34n, Bool.not_true, Bool.not_false]
   refine wp_cond_true rfl ?_
   refine wp_exit ?_
   (try simp only [Exit.then, Exit.inBlock, ↓reduceIte, Nat.reduceEqDiff])
   refine hK26 _ _ ?_
   refine wp_region_lit ?_
   refine wpp fun K_ h_ => ?_; go_simp; refine h_ _ _ ?_; clear h_ K_
   refine wpp fun K_ h_ => ?_; go_simp; refine h_ _ _ ?_; clear h_ K_
   refine wpp fun K_ h_ => ?_; go_simp; refine h_ _ _ ?_; clear h_ K_
   refine wpList_nil ?_
   (try simp only [Exit.then, Exit.inBlock, ↓reduceIte, Nat.reduceEqDiff])
   refine hK22 _ _ ?_
   go_roundg k18
   case measure => exact Nat.lt_succ_self _
   case rel => exact ⟨x12, wrap64 (x13 + 1), (by first | rfl | simp), (by first | rfl | simp), HL56, ⟨by have := hk19.out; omega⟩, ⟨hu15.out⟩, ⟨(Nat.le_trans (Nat.le_refl _) hz16.out)⟩⟩
  rw [if_pos c34] at H
  have c34n : (t29 != 0) = false := by rw [bne, c34]; rfl
  try simp only [c34, c34n, Bool.not_true, Bool.not_false]
  refine wp_cond_false rfl ?_
  refine wp_skip ?_
  (try simp only [Exit.then, Exit.inBlock, ↓reduceIte, Nat.reduceEqDiff])
  refine hK27 _ _ ?_
  refine wp_seq_k (fun K35 hK35 => ?_)
  refine wp_seq_k (fun K36 hK36 => ?_)
  refine wp_region_lit ?_
  refine wpp fun K_ h_ => ?_; go_simp; refine h_ _ _ ?_; clear h_ K_
  refine wpp fun K_ h_ => ?_; go_simp; refine h_ _ _ ?_; clear h_ K_
  refine wpList_nil ?_
  (try simp only [Exit.then, Exit.inBlock, ↓reduceIte, Nat.reduceEqDiff])
  refine hK36 _ _ ?_
  by_cases c37 : (x12 == 0) = true
  rotate_left
  ·
   rw [if_neg c37] at H; replace c37 := Bool.eq_false_iff.mpr c37
   have c37n : (x12 != 0) = true := by rw [bne, c37]; rfl
   have c37p : ¬ x12 = 0 := fun e => by simp [e] at c37
   replace H := Option.bind_eq_some_iff.mp H
   obtain ⟨t48, A49, H⟩ := H
   replace A49 := Aside0.mk A49
   try dsimp only at H
   try simp only [c37, c37n, Bool.not_true, Bool.not_false]
   refine wp_cond_false rfl ?_
   refine wp_skip ?_
   (try simp only [Exit.then, Exit.inBlock, ↓reduceIte, Nat.reduceEqDiff])
   refine hK35 _ _ ?_
   refine wp_seq_k (fun K47 hK47 => ?_)
   refine wp_region_lit ?_
   refine wpp fun K_ h_ => ?_; go_simp; refine h_ _ _ ?_; clear h_ K_
   refine wpp fun K_ h_ => ?_; go_simp; refine h_ _ _ ?_; clear h_ K_
   refine wpp fun K_ h_ => ?_; go_simp; refine h_ _ _ ?_; clear h_ K_
   refine step_index eI (T := 2) (wanted_none rfl) rfl (by kernel_rfl) (by kernel_rfl) rfl rfl rfl (ht3.up hu15.out).rd A49.out ?_
   intro ad50 hat he
   have he51 := Aside0.mk he
   have hat52 := Aside0.mk hat
   clear he hat
   simp only [Act.put, nm1, nm2, nm3, i64_w]
   have cl0 := he51.out 0 _ rfl
   rw [addr_add0] at cl0
   refine wpp fun K_ h_ => ?_; go_simp; refine h_ _ _ ?_; clear h_ K_
   clear cl0
   refine wpp fun K_ h_ => ?_; go_simp; refine h_ _ _ ?_; clear h_ K_
   refine wpp fun K_ h_ => ?_; go_simp; refine h_ _ _ ?_; clear h_ K_
   refine wpList_nil ?_
   (try simp only [Exit.then, Exit.inBlock, ↓reduceIte, Nat.reduceEqDiff])
   refine hK47 _ _ ?_
   by_cases c53 : (t48 == a1) = true
   rotate_left
   ·
    rw [if_neg c53] at H; replace c53 := Bool.eq_false_iff.mpr c53
    have c53n : (t48 != a1) = true := by rw [bne, c53]; rfl
    have c53p : ¬ t48 = a1 := fun e => by simp [e] at c53
    have HL55 := Aside0.mk H
    clear H
    try simp only [c53, c53n, Bool.not_true, Bool.not_false]
    refine wp_cond_false rfl ?_
    refine wp_skip ?_
    (try simp only [Exit.then, Exit.inBlock, ↓reduceIte, Nat.reduceEqDiff])
    refine hK26 _ _ ?_
    refine wp_region_lit ?_
    refine wpp fun K_ h_ => ?_; go_simp; refine h_ _ _ ?_; clear h_ K_
    refine wpp fun K_ h_ => ?_; go_simp; refine h_ _ _ ?_; clear h_ K_
    refine wpp fun K_ h_ => ?_; go_simp; refine h_ _ _ ?_; clear h_ K_
    refine wpList_nil ?_
    (try simp only [Exit.then, Exit.inBlock, ↓reduceIte, Nat.reduceEqDiff])
    refine hK22 _ _ ?_
    go_roundg k18
    case measure => exact Nat.lt_succ_self _
    case rel => exact ⟨x12, wrap64 (x13 + 1), (by first | rfl | simp), (by first | rfl | simp), HL55, ⟨by have := hk19.out; omega⟩, ⟨hu15.out⟩, ⟨(Nat.le_trans (Nat.le_refl _) hz16.out)⟩⟩
   rw [if_pos c53] at H
   have c53n : (t48 != a1) = false := by rw [bne, c53]; rfl
   simp only [Option.some.injEq, Prod.mk.injEq] at H
   obtain ⟨rfl, rfl⟩ := H
   try simp only [c53, c53n, Bool.not_true, Bool.not_false]
   refine wp_cond_true rfl ?_
   refine wp_seq_k (fun K54 hK54 => ?_)
   refine wp_region_lit ?_
   refine wpp fun K_ h_ => ?_; go_simp; refine h_ _ _ ?_; clear h_ K_
   refine wpp fun K_ h_ => ?_; go_simp; refine h_ _ _ ?_; clear h_ K_
   refine wpp fun K_ h_ => ?_; go_simp; refine h_ _ _ ?_; clear h_ K_
   refine wpp fun K_ h_ => ?_; go_simp; refine h_ _ _ ?_; clear h_ K_
   refine wpList_nil ?_
   (try simp only [Exit.then, Exit.inBlock, ↓reduceIte, Nat.reduceEqDiff])
   refine hK54 _ _ ?_
   refine wp_ret ?_
   (try simp only [Exit.then, Exit.inBlock, ↓reduceIte, Nat.reduceEqDiff])
   refine hQf _ _ _ ?_
   exact bodyPost_ret (v := .tuple #[.int .i64 x12, .int .i64 x13]) (by first | rfl | (simp [results, Try.results104, go_sem]; done) | (simp [results, Try.results104, go_sem]; rfl)) rfl ⟨rfl, (hu8.out.trans hu15.out)⟩
  rw [if_pos c37] at H
  have c37n : (x12 != 0) = false := by rw [bne, c37]; rfl
  replace H := Option.bind_eq_some_iff.mp H
  obtain ⟨t39, A40, H⟩ := H
  replace A40 := Aside0.mk A40
  try dsimp only at H
  try simp only [c37, c37n, Bool.not_true, Bool.not_false]
  refine wp_cond_true rfl ?_
  refine wp_region_lit ?_
  refine wpp fun K_ h_ => ?_; go_simp; refine h_ _ _ ?_; clear h_ K_
  refine wpp fun K_ h_ => ?_; go_simp; refine h_ _ _ ?_; clear h_ K_
  refine wpList_nil ?_
  (try simp only [Exit.then, Exit.inBlock, ↓reduceIte, Nat.reduceEqDiff])
  refine hK35 _ _ ?_
  refine wp_seq_k (fun K38 hK38 => ?_)
  refine wp_region_lit ?_
  refine wpp fun K_ h_ => ?_; go_simp; refine h_ _ _ ?_; clear h_ K_
  refine wpp fun K_ h_ => ?_; go_simp; refine h_ _ _ ?_; clear h_ K_
  refine wpp fun K_ h_ => ?_; go_simp; refine h_ _ _ ?_; clear h_ K_
  refine step_index eI (T := 2) (wanted_none rfl) rfl (by kernel_rfl) (by kernel_rfl) rfl rfl rfl (ht3.up hu15.out).rd A40.out ?_
  intro ad41 hat he
  have he42 := Aside0.mk he
  have hat43 := Aside0.mk hat
  clear he hat
  simp only [Act.put, nm1, nm2, nm3, i64_w]
  have cl0 := he42.out 0 _ rfl
  rw [addr_add0] at cl0
  refine wpp fun K_ h_ => ?_; go_simp; refine h_ _ _ ?_; clear h_ K_
  clear cl0
  refine wpp fun K_ h_ => ?_; go_simp; refine h_ _ _ ?_; clear h_ K_
  refine wpp fun K_ h_ => ?_; go_simp; refine h_ _ _ ?_; clear h_ K_
  refine wpList_nil ?_
  (try simp only [Exit.then, Exit.inBlock, ↓reduceIte, Nat.reduceEqDiff])
  refine hK38 _ _ ?_
  by_cases c44 : (t39 == a1) = true
  rotate_left
  ·
   rw [if_neg c44] at H; replace c44 := Bool.eq_false_iff.mpr c44
   have c44n : (t39 != a1) = true := by rw [bne, c44]; rfl
   have c44p : ¬ t39 = a1 := fun e => by simp [e] at c44
   have HL46 := Aside0.mk H
   clear H
   try simp only [c44, c44n, Bool.not_true, Bool.not_false]
   refine wp_cond_false rfl ?_
   refine wp_skip ?_
   (try simp only [Exit.then, Exit.inBlock, ↓reduceIte, Nat.reduceEqDiff])
   refine hK26 _ _ ?_
   refine wp_region_lit ?_
   refine wpp fun K_ h_ => ?_; go_simp; refine h_ _ _ ?_; clear h_ K_
   refine wpp fun K_ h_ => ?_; go_simp; refine h_ _ _ ?_; clear h_ K_
   refine wpp fun K_ h_ => ?_; go_simp; refine h_ _ _ ?_; clear h_ K_
   refine wpList_nil ?_
   (try simp only [Exit.then, Exit.inBlock, ↓reduceIte, Nat.reduceEqDiff])
   refine hK22 _ _ ?_
   go_roundg k18
   case measure => exact Nat.lt_succ_self _
   case rel => exact ⟨x13, wrap64 (x13 + 1), (by first | rfl | simp), (by first | rfl | simp), HL46, ⟨by have := hk19.out; omega⟩, ⟨hu15.out⟩, ⟨(Nat.le_trans (Nat.le_refl _) hz16.out)⟩⟩
  rw [if_pos c44] at H
  have c44n : (t39 != a1) = false := by rw [bne, c44]; rfl
  simp only [Option.some.injEq, Prod.mk.injEq] at H
  obtain ⟨rfl, rfl⟩ := H
  try simp only [c44, c44n, Bool.not_true, Bool.not_false]
  refine wp_cond_true rfl ?_
  refine wp_seq_k (fun K45 hK45 => ?_)
  refine wp_region_lit ?_
  refine wpp fun K_ h_ => ?_; go_simp; refine h_ _ _ ?_; clear h_ K_
  refine wpp fun K_ h_ => ?_; go_simp; refine h_ _ _ ?_; clear h_ K_
  refine wpp fun K_ h_ => ?_; go_simp; refine h_ _ _ ?_; clear h_ K_
  refine wpp fun K_ h_ => ?_; go_simp; refine h_ _ _ ?_; clear h_ K_
  refine wpList_nil ?_
  (try simp only [Exit.then, Exit.inBlock, ↓reduceIte, Nat.reduceEqDiff])
  refine hK45 _ _ ?_
  refine wp_ret ?_
  (try simp only [Exit.then, Exit.inBlock, ↓reduceIte, Nat.reduceEqDiff])
  refine hQf _ _ _ ?_
  exact bodyPost_ret (v := .tuple #[.int .i64 x13, .int .i64 x13]) (by first | rfl | (simp [results, Try.results104, go_sem]; done) | (simp [results, Try.results104, go_sem]; rfl)) rfl ⟨rfl, (hu8.out.trans hu15.out)⟩

set_option maxHeartbeats 40000000 in
set_option maxRecDepth 100000 in
theorem impl_OrderOfSpread.calls (K : Nat) (a0 : Int) (a1 : Int) (r0 : Int) (r1 : Int) (w : World)  (h : impl_OrderOfSpread.f K a0 a1 = some (r0, r1)) :
    Calls Try.prog 24 #[.int .i64 a0, .int .i64 a1] w fun e w' => e = .returned (.tuple #[.int .i64 r0, .int .i64 r1]) ∧ Up w w' := by
 have H : (((impl_asked__impl_OrderOfSpread_1.f K a0 a0 a1).bind fun t10 => (if (t10 == 0) = true then ((impl_orderOf.f K a0 a1).bind fun (t17, t18) => some (t17, 0)) else some (0, t10))) : Option (Int × Int)) = some (r0, r1) := h
 clear h
 replace H := Option.bind_eq_some_iff.mp H
 obtain ⟨t10, A11, H⟩ := H
 replace A11 := Aside0.mk A11
 try dsimp only at H
 go_enter Try.func24, Try.ntmps24
 refine wp_hide (fun Qf hQf => ?_)
 refine wp_seq_k (fun K1 hK1 => ?_)
 refine wp_region_lit ?_
 refine step_new (cs := [.int .i64 a0]) (T := 2) (f := fun b => .pointer (some ⟨b, 0, none⟩)) rfl (by go_simp <;> rfl) ?_
 intro b2 w3 hu lb hb2
 simp only [Act.put, nm1, nm2, nm3, i64_w]
 have lbb2 := Aside0.mk lb
 have ltb2 := Aside0.mk hb2.lt
 clear lb
 have hu4 := Aside0.mk hu
 clear hu
 refine step_new (cs := [.int .i64 a1]) (T := 2) (f := fun b => .pointer (some ⟨b, 0, none⟩)) rfl (by go_simp <;> rfl) ?_
 intro b5 w6 hu lb hb5
 simp only [Act.put, nm1, nm2, nm3, i64_w]
 have lbb5 := Aside0.mk lb
 have ltb5 := Aside0.mk hb5.lt
 clear lb
 have hu7 := Aside0.mk hu
 clear hu
 refine wpp fun K_ h_ => ?_; go_simp; refine h_ _ _ ?_; clear h_ K_
 refine wpp fun K_ h_ => ?_; go_simp; refine h_ _ _ ?_; clear h_ K_
 refine wpList_nil ?_
 (try simp only [Exit.then, Exit.inBlock, ↓reduceIte, Nat.reduceEqDiff])
 refine hK1 _ _ ?_
 refine wp_seq_k (fun K8 hK8 => ?_)
 refine wp_seq_k (fun K9 hK9 => ?_)
 refine wp_region_lit ?_
 have cl0 := (hb2.up hu7.out).cell (o := 0) rfl
 refine wpp fun K_ h_ => ?_; go_simp; refine h_ _ _ ?_; clear h_ K_
 clear cl0
 refine wpp fun K_ h_ => ?_; go_simp; refine h_ _ _ ?_; clear h_ K_
 refine step_call (wanted_none rfl) (by go_simp <;> rfl) (impl_asked__impl_OrderOfSpread_1.calls K a0 b2 a0 b5 a1 t10 w6 (hb2.up hu7.out) hb5 A11.out) ?_
 rintro e w12 ⟨rfl, hu⟩
 have hu13 := Aside0.mk hu
 clear hu
 refine ⟨_, rfl, ?_⟩
 simp only [Act.put, nm1, nm2, nm3, i64_w]
 refine wpp fun K_ h_ => ?_; go_simp; refine h_ _ _ ?_; clear h_ K_
 refine wpList_nil ?_
 (try simp only [Exit.then, Exit.inBlock, ↓reduceIte, Nat.reduceEqDiff])
 refine hK9 _ _ ?_
 refine wp_seq_k (fun K14 hK14 => ?_)
 refine wp_region_lit ?_
 refine wpp fun K_ h_ => ?_; go_simp; refine h_ _ _ ?_; clear h_ K_
 refine wpp fun K_ h_ => ?_; go_simp; refine h_ _ _ ?_; clear h_ K_
 refine wpList_nil ?_
 (try simp only [Exit.then, Exit.inBlock, ↓reduceIte, Nat.reduceEqDiff])
 refine hK14 _ _ ?_
 by_cases c15 : (t10 == 0) = true
 rotate_left
 ·
  rw [if_neg c15] at H; replace c15 := Bool.eq_false_iff.mpr c15
  have c15n : (t10 != 0) = true := by rw [bne, c15]; rfl
  have c15p : ¬ t10 = 0 := fun e => by simp [e] at c15
  simp only [Option.some.injEq, Prod.mk.injEq] at H
  obtain ⟨rfl, rfl⟩ := H
  try simp only [c15, c15n, Bool.not_true, Bool.not_false]
  refine wp_cond_true rfl ?_
  refine wp_seq_k (fun K23 hK23 => ?_)
  refine wp_region_lit ?_
  refine wpp fun K_ h_ => ?_; go_simp; refine h_ _ _ ?_; clear h_ K_
  refine wpp fun K_ h_ => ?_; go_simp; refine h_ _ _ ?_; clear h_ K_
  refine wpp fun K_ h_ => ?_; go_simp; refine h_ _ _ ?_; clear h_ K_
  refine wpList_nil ?_
  (try simp only [Exit.then, Exit.inBlock, ↓reduceIte, Nat.reduceEqDiff])
  refine hK23 _ _ ?_
  refine wp_ret ?_
  (try simp only [Exit.then, Exit.inBlock, ↓reduceIte, Nat.reduceEqDiff])
  refine hQf _ _ _ ?_
  exact bodyPost_ret (v := .tuple #[.int .i64 0, .int .i64 t10]) (by first | rfl | (simp [results, Try.results24, go_sem]; done) | (simp [results, Try.results24, go_sem]; rfl)) rfl ⟨rfl, ((hu4.out.trans hu7.out).trans hu13.out)⟩
 rw [if_pos c15] at H
 have c15n : (t10 != 0) = false := by rw [bne, c15]; rfl
 replace H := Option.bind_eq_some_iff.mp H
 obtain ⟨⟨t17, t18⟩, A19, H⟩ := H
 replace A19 := Aside0.mk A19
 try dsimp only at H
 simp only [Option.some.injEq, Prod.mk.injEq] at H
 obtain ⟨rfl, rfl⟩ := H
 try simp only [c15, c15n, Bool.not_true, Bool.not_false]
 refine wp_cond_false rfl ?_
 refine wp_skip ?_
 (try simp only [Exit.then, Exit.inBlock, ↓reduceIte, Nat.reduceEqDiff])
 refine hK8 _ _ ?_
 refine wp_seq_k (fun K16 hK16 => ?_)
 refine wp_region_lit ?_
 have cl0 := (hb2.up (hu7.out.trans hu13.out)).cell (o := 0) rfl
 refine wpp fun K_ h_ => ?_; go_simp; refine h_ _ _ ?_; clear h_ K_
 clear cl0
 have cl0 := (hb5.up hu13.out).cell (o := 0) rfl
 refine wpp fun K_ h_ => ?_; go_simp; refine h_ _ _ ?_; clear h_ K_
 clear cl0
 refine step_call (wanted_none rfl) (by go_simp <;> rfl) (impl_orderOf.calls K a0 a1 t17 t18 w12  A19.out) ?_
 rintro e w20 ⟨rfl, hu⟩
 have hu21 := Aside0.mk hu
 clear hu
 refine ⟨_, rfl, ?_⟩
 simp only [Act.put, nm1, nm2, nm3, i64_w]
 refine wpp fun K_ h_ => ?_; go_simp; refine h_ _ _ ?_; clear h_ K_
 refine wpp fun K_ h_ => ?_; go_simp; refine h_ _ _ ?_; clear h_ K_
 refine wpp fun K_ h_ => ?_; go_simp; refine h_ _ _ ?_; clear h_ K_
 refine wpp fun K_ h_ => ?_; go_simp; refine h_ _ _ ?_; clear h_ K_
 refine wpp fun K_ h_ => ?_; go_simp; refine h_ _ _ ?_; clear h_ K_
 refine wpList_nil ?_
 (try simp only [Exit.then, Exit.inBlock, ↓reduceIte, Nat.reduceEqDiff])
 refine hK16 _ _ ?_
 refine wp_seq_k (fun K22 hK22 => ?_)
 refine wp_region_lit ?_
 refine wpp fun K_ h_ => ?_; go_simp; refine h_ _ _ ?_; clear h_ K_
 refine wpp fun K_ h_ => ?_; go_simp; refine h_ _ _ ?_; clear h_ K_
 refine wpp fun K_ h_ => ?_; go_simp; refine h_ _ _ ?_; clear h_ K_
 refine wpList_nil ?_
 (try simp only [Exit.then, Exit.inBlock, ↓reduceIte, Nat.reduceEqDiff])
 refine hK22 _ _ ?_
 refine wp_ret ?_
 (try simp only [Exit.then, Exit.inBlock, ↓reduceIte, Nat.reduceEqDiff])
 refine hQf _ _ _ ?_
 exact bodyPost_ret (v := .tuple #[.int .i64 t17, .int .i64 0]) (by first | rfl | (simp [results, Try.results24, go_sem]; done) | (simp [results, Try.results24, go_sem]; rfl)) rfl ⟨rfl, (((hu4.out.trans hu7.out).trans hu13.out).trans hu21.out)⟩

set_option maxHeartbeats 40000000 in
set_option maxRecDepth 100000 in
theorem laws_hasInt.calls (K : Nat) (a0_A : Option Addr) (a0_c : Nat) (a0 : List (Int)) (a1 : Int) (r0 : Bool) (w : World) (ha0 : Rd eI w a0_A a0) (h : laws_hasInt.f K a0 a1 = some (r0)) :
    Calls Try.prog 25 #[.slice a0_A a0.length a0_c, .int .i64 a1] w fun e w' => e = .returned (.bool r0) ∧ Up w w' := by
 have H : ((laws_hasInt.l0 K a0 a1 K 0) : Option (Bool)) = some (r0) := h
 clear h
 go_enter Try.func25, Try.ntmps25
 refine wp_hide (fun Qf hQf => ?_)
 refine wp_seq_k (fun K1 hK1 => ?_)
 refine wp_region_lit ?_
 refine wpp fun K_ h_ => ?_; go_simp; refine h_ _ _ ?_; clear h_ K_
 refine wpList_nil ?_
 (try simp only [Exit.then, Exit.inBlock, ↓reduceIte, Nat.reduceEqDiff])
 refine hK1 _ _ ?_
 refine wp_seq_k (fun K2 hK2 => ?_)
 refine wp_seq_k (fun K3 hK3 => ?_)
 refine wp_region_lit ?_
 refine wpp fun K_ h_ => ?_; go_simp; refine h_ _ _ ?_; clear h_ K_
 refine wpList_nil ?_
 (try simp only [Exit.then, Exit.inBlock, ↓reduceIte, Nat.reduceEqDiff])
 refine hK3 _ _ ?_
 refine wp_block ?_
 have HL8 := Aside0.mk H
 clear H
 go_loopg [5] K (fun kq v5 w' => ∃ (x4 : Int), v5 = .int .i64 x4 ∧ Aside0 (laws_hasInt.l0 K a0 a1 kq x4 = some (r0)) ∧ Aside0 (kq ≤ K) ∧ Aside0 (Up w w') ∧ Aside0 (w.heap.size ≤ w'.heap.size))
 case atStart => exact ⟨0, (by first | rfl | simp), HL8, ⟨Nat.le_refl _⟩, ⟨(Up.refl _)⟩, ⟨Nat.le_refl _⟩⟩
 case round =>
  rename_i J12 K13 hJ12 hK13
  obtain ⟨x4, rfl, HL11, hk10, hu6, hz7⟩ := hrel
  obtain ⟨w5, rfl⟩ : ∃ wo : World, wo = wr := ⟨_, rfl⟩
  obtain ⟨k9, rfl⟩ | rfl : (∃ k, gk = k + 1) ∨ gk = 0 := by rcases gk with _ | k; exact .inr rfl; exact .inl ⟨k, rfl⟩
  case inr => exact absurd HL11.out (by simp [laws_hasInt.l0])
  have H := HL11.out
  clear HL11
  rw [laws_hasInt.l0] at H
  refine wp_seq_k (fun K14 hK14 => ?_)
  refine wp_seq_k (fun K15 hK15 => ?_)
  refine wp_region_lit ?_
  refine wpp fun K_ h_ => ?_; go_simp; refine h_ _ _ ?_; clear h_ K_
  refine wpp fun K_ h_ => ?_; go_simp; refine h_ _ _ ?_; clear h_ K_
  refine wpp fun K_ h_ => ?_; go_simp; refine h_ _ _ ?_; clear h_ K_
  refine wpp fun K_ h_ => ?_; go_simp; refine h_ _ _ ?_; clear h_ K_
  refine wpList_nil ?_
  (try simp only [Exit.then, Exit.inBlock, ↓reduceIte, Nat.reduceEqDiff])
  refine hK15 _ _ ?_
  by_cases c16 : (decide (x4 < (a0.length : Int))) = true
  rotate_left
  ·
   rw [if_neg c16] at H; replace c16 := Bool.eq_false_iff.mpr c16
   obtain rfl := Option.some.inj H
   try simp only [c16, Bool.not_true, Bool.not_false]
   refine wp_cond_false rfl ?_
   refine wp_exit ?_
   (try simp only [Exit.then, Exit.inBlock, ↓reduceIte, Nat.reduceEqDiff])
   refine hK2 _ _ ?_
   refine wp_seq_k (fun K27 hK27 => ?_)
   refine wp_region_lit ?_
   refine wpp fun K_ h_ => ?_; go_simp; refine h_ _ _ ?_; clear h_ K_
   refine wpList_nil ?_
   (try simp only [Exit.then, Exit.inBlock, ↓reduceIte, Nat.reduceEqDiff])
   refine hK27 _ _ ?_
   refine wp_ret ?_
   (try simp only [Exit.then, Exit.inBlock, ↓reduceIte, Nat.reduceEqDiff])
   refine hQf _ _ _ ?_
   exact bodyPost_ret (v := .bool false) (by first | rfl | (simp [results, Try.results25, go_sem]; done) | (simp [results, Try.results25, go_sem]; rfl)) rfl ⟨rfl, hu6.out⟩
  rw [if_pos c16] at H
  replace H := Option.bind_eq_some_iff.mp H
  obtain ⟨t19, A20, H⟩ := H
  replace A20 := Aside0.mk A20
  try dsimp only at H
  try simp only [c16, Bool.not_true, Bool.not_false]
  refine wp_cond_true rfl ?_
  refine wp_skip ?_
  (try simp only [Exit.then, Exit.inBlock, ↓reduceIte, Nat.reduceEqDiff])
  refine hK14 _ _ ?_
  refine wp_seq_k (fun K17 hK17 => ?_)
  refine wp_block ?_
  refine wp_seq_k (fun K18 hK18 => ?_)
  refine wp_region_lit ?_
  refine wpp fun K_ h_ => ?_; go_simp; refine h_ _ _ ?_; clear h_ K_
  refine wpp fun K_ h_ => ?_; go_simp; refine h_ _ _ ?_; clear h_ K_
  refine step_index eI (T := 2) (wanted_none rfl) rfl (by kernel_rfl) (by kernel_rfl) rfl rfl rfl (ha0.up hu6.out) A20.out ?_
  intro ad21 hat he
  have he22 := Aside0.mk he
  have hat23 := Aside0.mk hat
  clear he hat
  simp only [Act.put, nm1, nm2, nm3, i64_w]
  have cl0 := he22.out 0 _ rfl
  rw [addr_add0] at cl0
  refine wpp fun K_ h_ => ?_; go_simp; refine h_ _ _ ?_; clear h_ K_
  clear cl0
  refine wpp fun K_ h_ => ?_; go_simp; refine h_ _ _ ?_; clear h_ K_
  refine wpp fun K_ h_ => ?_; go_simp; refine h_ _ _ ?_; clear h_ K_
  refine wpList_nil ?_
  (try simp only [Exit.then, Exit.inBlock, ↓reduceIte, Nat.reduceEqDiff])
  refine hK18 _ _ ?_
  by_cases c24 : (t19 == a1) = true
  ·
   rw [if_pos c24] at H
   have c24n : (t19 != a1) = false := by rw [bne, c24]; rfl
   obtain rfl := Option.some.inj H
   try simp only [c24, c24n, Bool.not_true, Bool.not_false]
   refine wp_cond_true rfl ?_
   refine wp_seq_k (fun K25 hK25 => ?_)
   refine wp_region_lit ?_
   refine wpp fun K_ h_ => ?_; go_simp; refine h_ _ _ ?_; clear h_ K_
   refine wpList_nil ?_
   (try simp only [Exit.then, Exit.inBlock, ↓reduceIte, Nat.reduceEqDiff])
   refine hK25 _ _ ?_
   refine wp_ret ?_
   (try simp only [Exit.then, Exit.inBlock, ↓reduceIte, Nat.reduceEqDiff])
   refine hQf _ _ _ ?_
   exact bodyPost_ret (v := .bool true) (by first | rfl | (simp [results, Try.results25, go_sem]; done) | (simp [results, Try.results25, go_sem]; rfl)) rfl ⟨rfl, hu6.out⟩
  rw [if_neg c24] at H; replace c24 := Bool.eq_false_iff.mpr c24
  have c24n : (t19 != a1) = true := by rw [bne, c24]; rfl
  have c24p : ¬ t19 = a1 := fun e => by simp [e] at c24
  have HL26 := Aside0.mk H
  clear H
  try simp only [c24, c24n, Bool.not_true, Bool.not_false]
  refine wp_cond_false rfl ?_
  refine wp_skip ?_
  (try simp only [Exit.then, Exit.inBlock, ↓reduceIte, Nat.reduceEqDiff])
  refine hK17 _ _ ?_
  refine wp_region_lit ?_
  refine wpp fun K_ h_ => ?_; go_simp; refine h_ _ _ ?_; clear h_ K_
  refine wpp fun K_ h_ => ?_; go_simp; refine h_ _ _ ?_; clear h_ K_
  refine wpp fun K_ h_ => ?_; go_simp; refine h_ _ _ ?_; clear h_ K_
  refine wpList_nil ?_
  (try simp only [Exit.then, Exit.inBlock, ↓reduceIte, Nat.reduceEqDiff])
  refine hK13 _ _ ?_
  go_roundg k9
  case measure => exact Nat.lt_succ_self _
  case rel => exact ⟨wrap64 (x4 + 1), (by first | rfl | simp), HL26, ⟨by have := hk10.out; omega⟩, ⟨hu6.out⟩, ⟨(Nat.le_trans (Nat.le_refl _) hz7.out)⟩⟩

end Go.Proofs.Ytccbmdpikalpfaa
