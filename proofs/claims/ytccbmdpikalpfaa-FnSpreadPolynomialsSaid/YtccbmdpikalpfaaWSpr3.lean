/- The walks: each of these functions of the program computes what its plain function says: laws_FnSpreadPolynomials. -/
import Derived.Test.YtccbmdpikalpfaaProg
import Derived.Test.YtccbmdpikalpfaaD1
import Derived.WalkKit
import Derived.KernelRfl
import Derived.BigQuiet
import Derived.Deep.LoopGhost
import Derived.Laws.StructEq
import Derived.Test.YtccbmdpikalpfaaWSpr2
namespace Go.Proofs.Ytccbmdpikalpfaa
open Go Go.RowKit
attribute [local go_sem] Oper.quiet Oper.quietAt Oper.quietUpon Act.put nm1 nm2 nm3 i64_w run_max2 run_min2
attribute [local irreducible] wpList
set_option linter.unusedVariables false
set_option linter.unusedSimpArgs false

set_option maxHeartbeats 40000000 in
set_option maxRecDepth 100000 in
theorem laws_FnSpreadPolynomials.calls (K : Nat) (a0_A : Option Addr) (a0_c : Nat) (a0 : List (Int)) (r0 : Bool) (w : World) (ha0 : Rd eU8 w a0_A a0) (h : laws_FnSpreadPolynomials.f K a0 = some (r0)) :
    Calls Try.prog 4 #[.slice a0_A a0.length a0_c] w fun e w' => e = .returned (.bool r0) ∧ Up w w' := by
 have H : (((laws_big.f K a0).bind fun t4 => (if t4 = true then some true else ((spec_DrawSpreadPolynomial.f K a0).bind fun (t11, t12, t13) => ((impl_SpreadPolynomial.f K t11 t12 t13).bind fun (t18, t19) => ((spec_SpreadPolynomial.f K t11 t12 t13).bind fun (t24, t25) => ((impl_ZerosOf.f K t11 t12).bind fun (t30, t33) => ((spec_ZerosOf.f K t11 t12).bind fun (t38, t41) => ((impl_LedTo.f K t11 t12 t13).bind fun (t46, t49) => ((spec_LedTo.f K t11 t12 t13).bind fun (t54, t57) => (if (t19 == t25) = true then (if (t18 == t24) = true then (if (t33 == t41) = true then ((laws_likeInts.f K t30 t38).bind fun t68 => (if t68 = true then (if (t49 == t57) = true then ((laws_likeInts.f K t46 t54).bind fun t74 => (if t74 = true then (if (t19 == 0) = true then ((impl_OrderOfSpread.f K t11 t13).bind fun (t241, t242) => (if (t242 == 0) = true then (if (t241 == 0) = true then none else (if (t18 == 0) = true then (if ((Int.tmod t12 t241) == 0) = true then ((laws_hasInt.f K t30 t13).bind fun t253 => (if t253 = true then (laws_FnSpreadPolynomials.l2 K a0 t11 t12 t13 t18 t46 K 0) else some false)) else some false) else (if ((Int.tmod t12 t241) == 0) = true then some false else ((laws_hasInt.f K t30 t13).bind fun t320 => (if t320 = true then some false else (laws_FnSpreadPolynomials.l3 K a0 t11 t12 t13 t18 t46 K 0)))))) else some false)) else (laws_FnSpreadPolynomials.j0 K a0)) else some false)) else some false) else some false)) else some false) else some false) else some false)))))))))) : Option (Bool)) = some (r0) := h
 clear h
 replace H := Option.bind_eq_some_iff.mp H
 obtain ⟨t4, A5, H⟩ := H
 replace A5 := Aside0.mk A5
 try dsimp only at H
 go_enter Try.func4, Try.ntmps4
 refine wp_hide (fun Qf hQf => ?_)
 refine wp_seq_k (fun K1 hK1 => ?_)
 refine wp_region_lit ?_
 refine wpp fun K_ h_ => ?_; go_simp; refine h_ _ _ ?_; clear h_ K_
 refine wpList_nil ?_
 (try simp only [Exit.then, Exit.inBlock, ↓reduceIte, Nat.reduceEqDiff])
 refine hK1 _ _ ?_
 refine wp_seq_k (fun K2 hK2 => ?_)
 refine wp_seq_k (fun K3 hK3 => ?_)
 refine wp_region_lit ?_
 refine wpp fun K_ h_ => ?_; go_simp; refine h_ _ _ ?_; clear h_ K_
 refine step_call (wanted_none rfl) (by go_simp <;> rfl) (laws_big.calls K a0_A a0_c a0 t4 w ha0 A5.out) ?_
 rintro e w6 ⟨rfl, hu⟩
 have hu7 := Aside0.mk hu
 clear hu
 refine ⟨_, rfl, ?_⟩
 simp only [Act.put, nm1, nm2, nm3, i64_w]
 refine wpList_nil ?_
 (try simp only [Exit.then, Exit.inBlock, ↓reduceIte, Nat.reduceEqDiff])
 refine hK3 _ _ ?_
 by_cases c8 : (t4) = true
 ·
  rw [if_pos c8] at H
  subst c8
  obtain rfl := Option.some.inj H
  refine wp_cond_true rfl ?_
  refine wp_seq_k (fun K9 hK9 => ?_)
  refine wp_region_lit ?_
  refine wpp fun K_ h_ => ?_; go_simp; refine h_ _ _ ?_; clear h_ K_
  refine wpList_nil ?_
  (try simp only [Exit.then, Exit.inBlock, ↓reduceIte, Nat.reduceEqDiff])
  refine hK9 _ _ ?_
  refine wp_ret ?_
  (try simp only [Exit.then, Exit.inBlock, ↓reduceIte, Nat.reduceEqDiff])
  refine hQf _ _ _ ?_
  exact bodyPost_ret (v := .bool true) (by first | rfl | (simp [results, Try.results4, go_sem]; done) | (simp [results, Try.results4, go_sem]; rfl)) rfl ⟨rfl, hu7.out⟩
 rw [if_neg c8] at H; replace c8 := Bool.eq_false_iff.mpr c8
 subst c8
 replace H := Option.bind_eq_some_iff.mp H
 obtain ⟨⟨t11, t12, t13⟩, A14, H⟩ := H
 replace A14 := Aside0.mk A14
 try dsimp only at H
 replace H := Option.bind_eq_some_iff.mp H
 obtain ⟨⟨t18, t19⟩, A20, H⟩ := H
 replace A20 := Aside0.mk A20
 try dsimp only at H
 replace H := Option.bind_eq_some_iff.mp H
 obtain ⟨⟨t24, t25⟩, A26, H⟩ := H
 replace A26 := Aside0.mk A26
 try dsimp only at H
 replace H := Option.bind_eq_some_iff.mp H
 obtain ⟨⟨t30, t33⟩, A34, H⟩ := H
 replace A34 := Aside0.mk A34
 try dsimp only at H
 replace H := Option.bind_eq_some_iff.mp H
 obtain ⟨⟨t38, t41⟩, A42, H⟩ := H
 replace A42 := Aside0.mk A42
 try dsimp only at H
 replace H := Option.bind_eq_some_iff.mp H
 obtain ⟨⟨t46, t49⟩, A50, H⟩ := H
 replace A50 := Aside0.mk A50
 try dsimp only at H
 replace H := Option.bind_eq_some_iff.mp H
 obtain ⟨⟨t54, t57⟩, A58, H⟩ := H
 replace A58 := Aside0.mk A58
 try dsimp only at H
 refine wp_cond_false rfl ?_
 refine wp_skip ?_
 (try simp only [Exit.then, Exit.inBlock, ↓reduceIte, Nat.reduceEqDiff])
 refine hK2 _ _ ?_
 refine wp_seq_k (fun K10 hK10 => ?_)
 refine wp_region_lit ?_
 refine wpp fun K_ h_ => ?_; go_simp; refine h_ _ _ ?_; clear h_ K_
 refine step_call (wanted_none rfl) (by go_simp <;> rfl) (spec_DrawSpreadPolynomial.calls K a0_A a0_c a0 t11 t12 t13 w6 (ha0.up hu7.out) A14.out) ?_
 rintro e w15 ⟨rfl, hu⟩
 have hu16 := Aside0.mk hu
 clear hu
 refine ⟨_, rfl, ?_⟩
 simp only [Act.put, nm1, nm2, nm3, i64_w]
 refine wpp fun K_ h_ => ?_; go_simp; refine h_ _ _ ?_; clear h_ K_
 refine wpp fun K_ h_ => ?_; go_simp; refine h_ _ _ ?_; clear h_ K_
 refine wpp fun K_ h_ => ?_; go_simp; refine h_ _ _ ?_; clear h_ K_
 refine wpp fun K_ h_ => ?_; go_simp; refine h_ _ _ ?_; clear h_ K_
 refine wpp fun K_ h_ => ?_; go_simp; refine h_ _ _ ?_; clear h_ K_
 refine wpp fun K_ h_ => ?_; go_simp; refine h_ _ _ ?_; clear h_ K_
 refine wpp fun K_ h_ => ?_; go_simp; refine h_ _ _ ?_; clear h_ K_
 refine wpList_nil ?_
 (try simp only [Exit.then, Exit.inBlock, ↓reduceIte, Nat.reduceEqDiff])
 refine hK10 _ _ ?_
 as_aux_lemma =>
 refine wp_seq_k (fun K17 hK17 => ?_)
 refine wp_region_lit ?_
 refine wpp fun K_ h_ => ?_; go_simp; refine h_ _ _ ?_; clear h_ K_
 refine wpp fun K_ h_ => ?_; go_simp; refine h_ _ _ ?_; clear h_ K_
 refine wpp fun K_ h_ => ?_; go_simp; refine h_ _ _ ?_; clear h_ K_
 refine step_call (wanted_none rfl) (by go_simp <;> rfl) (impl_SpreadPolynomial.calls K t11 t12 t13 t18 t19 w15  A20.out) ?_
 rintro e w21 ⟨rfl, hu⟩
 have hu22 := Aside0.mk hu
 clear hu
 refine ⟨_, rfl, ?_⟩
 simp only [Act.put, nm1, nm2, nm3, i64_w]
 refine wpp fun K_ h_ => ?_; go_simp; refine h_ _ _ ?_; clear h_ K_
 refine wpp fun K_ h_ => ?_; go_simp; refine h_ _ _ ?_; clear h_ K_
 refine wpp fun K_ h_ => ?_; go_simp; refine h_ _ _ ?_; clear h_ K_
 refine wpp fun K_ h_ => ?_; go_simp; refine h_ _ _ ?_; clear h_ K_
 refine wpp fun K_ h_ => ?_; go_simp; refine h_ _ _ ?_; clear h_ K_
 refine wpList_nil ?_
 (try simp only [Exit.then, Exit.inBlock, ↓reduceIte, Nat.reduceEqDiff])
 refine hK17 _ _ ?_
 refine wp_seq_k (fun K23 hK23 => ?_)
 refine wp_region_lit ?_
 refine wpp fun K_ h_ => ?_; go_simp; refine h_ _ _ ?_; clear h_ K_
 refine wpp fun K_ h_ => ?_; go_simp; refine h_ _ _ ?_; clear h_ K_
 refine wpp fun K_ h_ => ?_; go_simp; refine h_ _ _ ?_; clear h_ K_
 refine step_call (wanted_none rfl) (by go_simp <;> rfl) (spec_SpreadPolynomial.calls K t11 t12 t13 t24 t25 w21  A26.out) ?_
 rintro e w27 ⟨rfl, hu⟩
 have hu28 := Aside0.mk hu
 clear hu
 refine ⟨_, rfl, ?_⟩
 simp only [Act.put, nm1, nm2, nm3, i64_w]
 refine wpp fun K_ h_ => ?_; go_simp; refine h_ _ _ ?_; clear h_ K_
 refine wpp fun K_ h_ => ?_; go_simp; refine h_ _ _ ?_; clear h_ K_
 refine wpp fun K_ h_ => ?_; go_simp; refine h_ _ _ ?_; clear h_ K_
 refine wpp fun K_ h_ => ?_; go_simp; refine h_ _ _ ?_; clear h_ K_
 refine wpp fun K_ h_ => ?_; go_simp; refine h_ _ _ ?_; clear h_ K_
 refine wpList_nil ?_
 (try simp only [Exit.then, Exit.inBlock, ↓reduceIte, Nat.reduceEqDiff])
 refine hK23 _ _ ?_
 refine wp_seq_k (fun K29 hK29 => ?_)
 refine wp_region_lit ?_
 refine wpp fun K_ h_ => ?_; go_simp; refine h_ _ _ ?_; clear h_ K_
 refine wpp fun K_ h_ => ?_; go_simp; refine h_ _ _ ?_; clear h_ K_
 refine step_call (wanted_none rfl) (by go_simp <;> rfl) (impl_ZerosOf.calls K t11 t12 t30 t33 w27  A34.out) ?_
 rintro e w35 ⟨P31, q32, rfl, ht30, hu⟩
 have hu36 := Aside0.mk hu
 clear hu
 refine ⟨_, rfl, ?_⟩
 simp only [Act.put, nm1, nm2, nm3, i64_w]
 refine wpp fun K_ h_ => ?_; go_simp; refine h_ _ _ ?_; clear h_ K_
 refine wpp fun K_ h_ => ?_; go_simp; refine h_ _ _ ?_; clear h_ K_
 refine wpp fun K_ h_ => ?_; go_simp; refine h_ _ _ ?_; clear h_ K_
 refine wpp fun K_ h_ => ?_; go_simp; refine h_ _ _ ?_; clear h_ K_
 refine wpp fun K_ h_ => ?_; go_simp; refine h_ _ _ ?_; clear h_ K_
 refine wpList_nil ?_
 (try simp only [Exit.then, Exit.inBlock, ↓reduceIte, Nat.reduceEqDiff])
 refine hK29 _ _ ?_
 refine wp_seq_k (fun K37 hK37 => ?_)
 refine wp_region_lit ?_
 refine wpp fun K_ h_ => ?_; go_simp; refine h_ _ _ ?_; clear h_ K_
 refine wpp fun K_ h_ => ?_; go_simp; refine h_ _ _ ?_; clear h_ K_
 refine step_call (wanted_none rfl) (by go_simp <;> rfl) (spec_ZerosOf.calls K t11 t12 t38 t41 w35  A42.out) ?_
 rintro e w43 ⟨P39, q40, rfl, ht38, hu⟩
 have hu44 := Aside0.mk hu
 clear hu
 refine ⟨_, rfl, ?_⟩
 simp only [Act.put, nm1, nm2, nm3, i64_w]
 refine wpp fun K_ h_ => ?_; go_simp; refine h_ _ _ ?_; clear h_ K_
 refine wpp fun K_ h_ => ?_; go_simp; refine h_ _ _ ?_; clear h_ K_
 refine wpp fun K_ h_ => ?_; go_simp; refine h_ _ _ ?_; clear h_ K_
 refine wpp fun K_ h_ => ?_; go_simp; refine h_ _ _ ?_; clear h_ K_
 refine wpp fun K_ h_ => ?_; go_simp; refine h_ _ _ ?_; clear h_ K_
 refine wpList_nil ?_
 (try simp only [Exit.then, Exit.inBlock, ↓reduceIte, Nat.reduceEqDiff])
 refine hK37 _ _ ?_
 refine wp_seq_k (fun K45 hK45 => ?_)
 refine wp_region_lit ?_
 refine wpp fun K_ h_ => ?_; go_simp; refine h_ _ _ ?_; clear h_ K_
 refine wpp fun K_ h_ => ?_; go_simp; refine h_ _ _ ?_; clear h_ K_
 refine wpp fun K_ h_ => ?_; go_simp; refine h_ _ _ ?_; clear h_ K_
 refine step_call (wanted_none rfl) (by go_simp <;> rfl) (impl_LedTo.calls K t11 t12 t13 t46 t49 w43  A50.out) ?_
 rintro e w51 ⟨P47, q48, rfl, ht46, hu⟩
 have hu52 := Aside0.mk hu
 clear hu
 refine ⟨_, rfl, ?_⟩
 simp only [Act.put, nm1, nm2, nm3, i64_w]
 refine wpp fun K_ h_ => ?_; go_simp; refine h_ _ _ ?_; clear h_ K_
 refine wpp fun K_ h_ => ?_; go_simp; refine h_ _ _ ?_; clear h_ K_
 refine wpp fun K_ h_ => ?_; go_simp; refine h_ _ _ ?_; clear h_ K_
 refine wpp fun K_ h_ => ?_; go_simp; refine h_ _ _ ?_; clear h_ K_
 refine wpp fun K_ h_ => ?_; go_simp; refine h_ _ _ ?_; clear h_ K_
 refine wpList_nil ?_
 (try simp only [Exit.then, Exit.inBlock, ↓reduceIte, Nat.reduceEqDiff])
 refine hK45 _ _ ?_
 as_aux_lemma =>
 refine wp_seq_k (fun K53 hK53 => ?_)
 refine wp_region_lit ?_
 refine wpp fun K_ h_ => ?_; go_simp; refine h_ _ _ ?_; clear h_ K_
 refine wpp fun K_ h_ => ?_; go_simp; refine h_ _ _ ?_; clear h_ K_
 refine wpp fun K_ h_ => ?_; go_simp; refine h_ _ _ ?_; clear h_ K_
 refine step_call (wanted_none rfl) (by go_simp <;> rfl) (spec_LedTo.calls K t11 t12 t13 t54 t57 w51  A58.out) ?_
 rintro e w59 ⟨P55, q56, rfl, ht54, hu⟩
 have hu60 := Aside0.mk hu
 clear hu
 refine ⟨_, rfl, ?_⟩
 simp only [Act.put, nm1, nm2, nm3, i64_w]
 refine wpp fun K_ h_ => ?_; go_simp; refine h_ _ _ ?_; clear h_ K_
 refine wpp fun K_ h_ => ?_; go_simp; refine h_ _ _ ?_; clear h_ K_
 refine wpp fun K_ h_ => ?_; go_simp; refine h_ _ _ ?_; clear h_ K_
 refine wpp fun K_ h_ => ?_; go_simp; refine h_ _ _ ?_; clear h_ K_
 refine wpp fun K_ h_ => ?_; go_simp; refine h_ _ _ ?_; clear h_ K_
 refine wpList_nil ?_
 (try simp only [Exit.then, Exit.inBlock, ↓reduceIte, Nat.reduceEqDiff])
 refine hK53 _ _ ?_
 refine wp_seq_k (fun K61 hK61 => ?_)
 refine wp_seq_k (fun K62 hK62 => ?_)
 refine wp_region_lit ?_
 refine wpp fun K_ h_ => ?_; go_simp; refine h_ _ _ ?_; clear h_ K_
 refine wpp fun K_ h_ => ?_; go_simp; refine h_ _ _ ?_; clear h_ K_
 refine wpp fun K_ h_ => ?_; go_simp; refine h_ _ _ ?_; clear h_ K_
 refine wpp fun K_ h_ => ?_; go_simp; refine h_ _ _ ?_; clear h_ K_
 have hm64 := Aside0.mk (((((((hu7.out.trans hu16.out).trans hu22.out).trans hu28.out).trans hu36.out).trans hu44.out).trans hu52.out).trans hu60.out)
 have hm65 := Aside0.mk (Nat.le_trans ((Nat.le_trans ((Nat.le_trans ((Nat.le_trans ((Nat.le_trans ((Nat.le_trans ((Nat.le_trans (hu7.out.size) hu16.out.size)) hu22.out.size)) hu28.out.size)) hu36.out.size)) hu44.out.size)) hu52.out.size)) hu60.out.size)
 by_cases c63 : (t19 == t25) = true
 rotate_left
 ·
  rw [if_neg c63] at H; replace c63 := Bool.eq_false_iff.mpr c63
  have c63n : (t19 != t25) = true := by rw [bne, c63]; rfl
  have c63p : ¬ t19 = t25 := fun e => by simp [e] at c63
  obtain rfl := Option.some.inj H
  try simp only [c63, c63n, Bool.not_true, Bool.not_false]
  refine step_no rfl ?_
  simp only [Act.put, nm1, nm2, nm3, i64_w]
  refine step_no rfl ?_
  simp only [Act.put, nm1, nm2, nm3, i64_w]
  refine step_no rfl ?_
  simp only [Act.put, nm1, nm2, nm3, i64_w]
  refine wpp fun K_ h_ => ?_; go_simp; refine h_ _ _ ?_; clear h_ K_
  refine wpp fun K_ h_ => ?_; go_simp; refine h_ _ _ ?_; clear h_ K_
  refine step_no rfl ?_
  simp only [Act.put, nm1, nm2, nm3, i64_w]
  refine step_no rfl ?_
  simp only [Act.put, nm1, nm2, nm3, i64_w]
  refine step_no rfl ?_
  simp only [Act.put, nm1, nm2, nm3, i64_w]
  refine wpp fun K_ h_ => ?_; go_simp; refine h_ _ _ ?_; clear h_ K_
  refine wpp fun K_ h_ => ?_; go_simp; refine h_ _ _ ?_; clear h_ K_
  refine step_no rfl ?_
  simp only [Act.put, nm1, nm2, nm3, i64_w]
  refine step_no rfl ?_
  simp only [Act.put, nm1, nm2, nm3, i64_w]
  refine step_no rfl ?_
  simp only [Act.put, nm1, nm2, nm3, i64_w]
  refine step_no rfl ?_
  simp only [Act.put, nm1, nm2, nm3, i64_w]
  refine wpp fun K_ h_ => ?_; go_simp; refine h_ _ _ ?_; clear h_ K_
  refine wpp fun K_ h_ => ?_; go_simp; refine h_ _ _ ?_; clear h_ K_
  refine step_no rfl ?_
  simp only [Act.put, nm1, nm2, nm3, i64_w]
  refine step_no rfl ?_
  simp only [Act.put, nm1, nm2, nm3, i64_w]
  refine step_no rfl ?_
  simp only [Act.put, nm1, nm2, nm3, i64_w]
  refine wpp fun K_ h_ => ?_; go_simp; refine h_ _ _ ?_; clear h_ K_
  refine wpp fun K_ h_ => ?_; go_simp; refine h_ _ _ ?_; clear h_ K_
  refine step_no rfl ?_
  simp only [Act.put, nm1, nm2, nm3, i64_w]
  refine step_no rfl ?_
  simp only [Act.put, nm1, nm2, nm3, i64_w]
  refine step_no rfl ?_
  simp only [Act.put, nm1, nm2, nm3, i64_w]
  refine step_no rfl ?_
  simp only [Act.put, nm1, nm2, nm3, i64_w]
  refine wpp fun K_ h_ => ?_; go_simp; refine h_ _ _ ?_; clear h_ K_
  refine wpList_nil ?_
  (try simp only [Exit.then, Exit.inBlock, ↓reduceIte, Nat.reduceEqDiff])
  refine hK62 _ _ ?_
  as_aux_lemma =>
  refine wp_cond_true rfl ?_
  refine wp_seq_k (fun K390 hK390 => ?_)
  refine wp_region_lit ?_
  refine wpp fun K_ h_ => ?_; go_simp; refine h_ _ _ ?_; clear h_ K_
  refine wpList_nil ?_
  (try simp only [Exit.then, Exit.inBlock, ↓reduceIte, Nat.reduceEqDiff])
  refine hK390 _ _ ?_
  refine wp_ret ?_
  (try simp only [Exit.then, Exit.inBlock, ↓reduceIte, Nat.reduceEqDiff])
  refine hQf _ _ _ ?_
  exact bodyPost_ret (v := .bool false) (by first | rfl | (simp [results, Try.results4, go_sem]; done) | (simp [results, Try.results4, go_sem]; rfl)) rfl ⟨rfl, hm64.out⟩
 rw [if_pos c63] at H
 have c63n : (t19 != t25) = false := by rw [bne, c63]; rfl
 try simp only [c63, c63n, Bool.not_true, Bool.not_false]
 refine wpList_step fun K_ h_ => ?_; go_simp; refine h_ _ _ ?_; clear h_ K_
 refine wpList_step fun K_ h_ => ?_; go_simp; refine h_ _ _ ?_; clear h_ K_
 refine wpList_step fun K_ h_ => ?_; go_simp; refine h_ _ _ ?_; clear h_ K_
 refine wpp fun K_ h_ => ?_; go_simp; refine h_ _ _ ?_; clear h_ K_
 refine wpp fun K_ h_ => ?_; go_simp; refine h_ _ _ ?_; clear h_ K_
 by_cases c66 : (t18 == t24) = true
 rotate_left
 ·
  rw [if_neg c66] at H; replace c66 := Bool.eq_false_iff.mpr c66
  have c66n : (t18 != t24) = true := by rw [bne, c66]; rfl
  have c66p : ¬ t18 = t24 := fun e => by simp [e] at c66
  obtain rfl := Option.some.inj H
  try simp only [c66, c66n, Bool.not_true, Bool.not_false]
  refine step_no rfl ?_
  simp only [Act.put, nm1, nm2, nm3, i64_w]
  refine step_no rfl ?_
  simp only [Act.put, nm1, nm2, nm3, i64_w]
  refine step_no rfl ?_
  simp only [Act.put, nm1, nm2, nm3, i64_w]
  refine wpp fun K_ h_ => ?_; go_simp; refine h_ _ _ ?_; clear h_ K_
  refine wpp fun K_ h_ => ?_; go_simp; refine h_ _ _ ?_; clear h_ K_
  refine step_no rfl ?_
  simp only [Act.put, nm1, nm2, nm3, i64_w]
  refine step_no rfl ?_
  simp only [Act.put, nm1, nm2, nm3, i64_w]
  refine step_no rfl ?_
  simp only [Act.put, nm1, nm2, nm3, i64_w]
  refine step_no rfl ?_
  simp only [Act.put, nm1, nm2, nm3, i64_w]
  refine wpp fun K_ h_ => ?_; go_simp; refine h_ _ _ ?_; clear h_ K_
  refine wpp fun K_ h_ => ?_; go_simp; refine h_ _ _ ?_; clear h_ K_
  refine step_no rfl ?_
  simp only [Act.put, nm1, nm2, nm3, i64_w]
  refine step_no rfl ?_
  simp only [Act.put, nm1, nm2, nm3, i64_w]
  refine step_no rfl ?_
  simp only [Act.put, nm1, nm2, nm3, i64_w]
  refine wpp fun K_ h_ => ?_; go_simp; refine h_ _ _ ?_; clear h_ K_
  refine wpp fun K_ h_ => ?_; go_simp; refine h_ _ _ ?_; clear h_ K_
  refine step_no rfl ?_
  simp only [Act.put, nm1, nm2, nm3, i64_w]
  refine step_no rfl ?_
  simp only [Act.put, nm1, nm2, nm3, i64_w]
  refine step_no rfl ?_
  simp only [Act.put, nm1, nm2, nm3, i64_w]
  refine step_no rfl ?_
  simp only [Act.put, nm1, nm2, nm3, i64_w]
  refine wpp fun K_ h_ => ?_; go_simp; refine h_ _ _ ?_; clear h_ K_
  refine wpList_nil ?_
  (try simp only [Exit.then, Exit.inBlock, ↓reduceIte, Nat.reduceEqDiff])
  refine hK62 _ _ ?_
  refine wp_cond_true rfl ?_
  refine wp_seq_k (fun K389 hK389 => ?_)
  refine wp_region_lit ?_
  refine wpp fun K_ h_ => ?_; go_simp; refine h_ _ _ ?_; clear h_ K_
  refine wpList_nil ?_
  (try simp only [Exit.then, Exit.inBlock, ↓reduceIte, Nat.reduceEqDiff])
  refine hK389 _ _ ?_
  refine wp_ret ?_
  (try simp only [Exit.then, Exit.inBlock, ↓reduceIte, Nat.reduceEqDiff])
  refine hQf _ _ _ ?_
  exact bodyPost_ret (v := .bool false) (by first | rfl | (simp [results, Try.results4, go_sem]; done) | (simp [results, Try.results4, go_sem]; rfl)) rfl ⟨rfl, hm64.out⟩
 rw [if_pos c66] at H
 have c66n : (t18 != t24) = false := by rw [bne, c66]; rfl
 try simp only [c66, c66n, Bool.not_true, Bool.not_false]
 refine wpList_step fun K_ h_ => ?_; go_simp; refine h_ _ _ ?_; clear h_ K_
 refine wpList_step fun K_ h_ => ?_; go_simp; refine h_ _ _ ?_; clear h_ K_
 refine wpList_step fun K_ h_ => ?_; go_simp; refine h_ _ _ ?_; clear h_ K_
 refine wpp fun K_ h_ => ?_; go_simp; refine h_ _ _ ?_; clear h_ K_
 refine wpp fun K_ h_ => ?_; go_simp; refine h_ _ _ ?_; clear h_ K_
 by_cases c67 : (t33 == t41) = true
 rotate_left
 ·
  rw [if_neg c67] at H; replace c67 := Bool.eq_false_iff.mpr c67
  have c67n : (t33 != t41) = true := by rw [bne, c67]; rfl
  have c67p : ¬ t33 = t41 := fun e => by simp [e] at c67
  obtain rfl := Option.some.inj H
  try simp only [c67, c67n, Bool.not_true, Bool.not_false]
  refine step_no rfl ?_
  simp only [Act.put, nm1, nm2, nm3, i64_w]
  refine step_no rfl ?_
  simp only [Act.put, nm1, nm2, nm3, i64_w]
  refine step_no rfl ?_
  simp only [Act.put, nm1, nm2, nm3, i64_w]
  refine step_no rfl ?_
  simp only [Act.put, nm1, nm2, nm3, i64_w]
  refine wpp fun K_ h_ => ?_; go_simp; refine h_ _ _ ?_; clear h_ K_
  refine wpp fun K_ h_ => ?_; go_simp; refine h_ _ _ ?_; clear h_ K_
  refine step_no rfl ?_
  simp only [Act.put, nm1, nm2, nm3, i64_w]
  refine step_no rfl ?_
  simp only [Act.put, nm1, nm2, nm3, i64_w]
  refine step_no rfl ?_
  simp only [Act.put, nm1, nm2, nm3, i64_w]
  refine wpp fun K_ h_ => ?_; go_simp; refine h_ _ _ ?_; clear h_ K_
  refine wpp fun K_ h_ => ?_; go_simp; refine h_ _ _ ?_; clear h_ K_
  refine step_no rfl ?_
  simp only [Act.put, nm1, nm2, nm3, i64_w]
  refine step_no rfl ?_
  simp only [Act.put, nm1, nm2, nm3, i64_w]
  refine step_no rfl ?_
  simp only [Act.put, nm1, nm2, nm3, i64_w]
  refine step_no rfl ?_
  simp only [Act.put, nm1, nm2, nm3, i64_w]
  refine wpp fun K_ h_ => ?_; go_simp; refine h_ _ _ ?_; clear h_ K_
  refine wpList_nil ?_
  (try simp only [Exit.then, Exit.inBlock, ↓reduceIte, Nat.reduceEqDiff])
  refine hK62 _ _ ?_
  as_aux_lemma =>
  refine wp_cond_true rfl ?_
  refine wp_seq_k (fun K388 hK388 => ?_)
  refine wp_region_lit ?_
  refine wpp fun K_ h_ => ?_; go_simp; refine h_ _ _ ?_; clear h_ K_
  refine wpList_nil ?_
  (try simp only [Exit.then, Exit.inBlock, ↓reduceIte, Nat.reduceEqDiff])
  refine hK388 _ _ ?_
  refine wp_ret ?_
  (try simp only [Exit.then, Exit.inBlock, ↓reduceIte, Nat.reduceEqDiff])
  refine hQf _ _ _ ?_
  exact bodyPost_ret (v := .bool false) (by first | rfl | (simp [results, Try.results4, go_sem]; done) | (simp [results, Try.results4, go_sem]; rfl)) rfl ⟨rfl, hm64.out⟩
 rw [if_pos c67] at H
 have c67n : (t33 != t41) = false := by rw [bne, c67]; rfl
 replace H := Option.bind_eq_some_iff.mp H
 obtain ⟨t68, A69, H⟩ := H
 replace A69 := Aside0.mk A69
 try dsimp only at H
 try simp only [c67, c67n, Bool.not_true, Bool.not_false]
 refine wpList_step fun K_ h_ => ?_; go_simp; refine h_ _ _ ?_; clear h_ K_
 refine wpList_step fun K_ h_ => ?_; go_simp; refine h_ _ _ ?_; clear h_ K_
 refine step_call rfl (by go_simp <;> rfl) (laws_likeInts.calls K P31 q32 t30 P39 q40 t38 t68 w59 ((ht30.up ((hu44.out.trans hu52.out).trans hu60.out)).rd) ((ht38.up (hu52.out.trans hu60.out)).rd) A69.out) ?_
 rintro e w70 ⟨rfl, hu⟩
 have hu71 := Aside0.mk hu
 clear hu
 refine ⟨_, rfl, ?_⟩
 simp only [Act.put, nm1, nm2, nm3, i64_w]
 refine wpList_step fun K_ h_ => ?_; go_simp; refine h_ _ _ ?_; clear h_ K_
 refine wpp fun K_ h_ => ?_; go_simp; refine h_ _ _ ?_; clear h_ K_
 refine wpp fun K_ h_ => ?_; go_simp; refine h_ _ _ ?_; clear h_ K_
 by_cases c72 : (t68) = true
 rotate_left
 ·
  rw [if_neg c72] at H; replace c72 := Bool.eq_false_iff.mpr c72
  subst c72
  obtain rfl := Option.some.inj H
  refine step_no rfl ?_
  simp only [Act.put, nm1, nm2, nm3, i64_w]
  refine step_no rfl ?_
  simp only [Act.put, nm1, nm2, nm3, i64_w]
  refine step_no rfl ?_
  simp only [Act.put, nm1, nm2, nm3, i64_w]
  refine wpp fun K_ h_ => ?_; go_simp; refine h_ _ _ ?_; clear h_ K_
  refine wpp fun K_ h_ => ?_; go_simp; refine h_ _ _ ?_; clear h_ K_
  refine step_no rfl ?_
  simp only [Act.put, nm1, nm2, nm3, i64_w]
  refine step_no rfl ?_
  simp only [Act.put, nm1, nm2, nm3, i64_w]
  refine step_no rfl ?_
  simp only [Act.put, nm1, nm2, nm3, i64_w]
  refine step_no rfl ?_
  simp only [Act.put, nm1, nm2, nm3, i64_w]
  refine wpp fun K_ h_ => ?_; go_simp; refine h_ _ _ ?_; clear h_ K_
  refine wpList_nil ?_
  (try simp only [Exit.then, Exit.inBlock, ↓reduceIte, Nat.reduceEqDiff])
  refine hK62 _ _ ?_
  refine wp_cond_true rfl ?_
  refine wp_seq_k (fun K387 hK387 => ?_)
  refine wp_region_lit ?_
  refine wpp fun K_ h_ => ?_; go_simp; refine h_ _ _ ?_; clear h_ K_
  refine wpList_nil ?_
  (try simp only [Exit.then, Exit.inBlock, ↓reduceIte, Nat.reduceEqDiff])
  refine hK387 _ _ ?_
  refine wp_ret ?_
  (try simp only [Exit.then, Exit.inBlock, ↓reduceIte, Nat.reduceEqDiff])
  refine hQf _ _ _ ?_
  exact bodyPost_ret (v := .bool false) (by first | rfl | (simp [results, Try.results4, go_sem]; done) | (simp [results, Try.results4, go_sem]; rfl)) rfl ⟨rfl, (hm64.out.trans hu71.out)⟩
 rw [if_pos c72] at H
 subst c72
 refine wpList_step fun K_ h_ => ?_; go_simp; refine h_ _ _ ?_; clear h_ K_
 refine wpList_step fun K_ h_ => ?_; go_simp; refine h_ _ _ ?_; clear h_ K_
 refine wpList_step fun K_ h_ => ?_; go_simp; refine h_ _ _ ?_; clear h_ K_
 refine wpp fun K_ h_ => ?_; go_simp; refine h_ _ _ ?_; clear h_ K_
 refine wpp fun K_ h_ => ?_; go_simp; refine h_ _ _ ?_; clear h_ K_
 by_cases c73 : (t49 == t57) = true
 rotate_left
 ·
  rw [if_neg c73] at H; replace c73 := Bool.eq_false_iff.mpr c73
  have c73n : (t49 != t57) = true := by rw [bne, c73]; rfl
  have c73p : ¬ t49 = t57 := fun e => by simp [e] at c73
  obtain rfl := Option.some.inj H
  try simp only [c73, c73n, Bool.not_true, Bool.not_false]
  refine step_no rfl ?_
  simp only [Act.put, nm1, nm2, nm3, i64_w]
  refine step_no rfl ?_
  simp only [Act.put, nm1, nm2, nm3, i64_w]
  refine step_no rfl ?_
  simp only [Act.put, nm1, nm2, nm3, i64_w]
  refine step_no rfl ?_
  simp only [Act.put, nm1, nm2, nm3, i64_w]
  refine wpp fun K_ h_ => ?_; go_simp; refine h_ _ _ ?_; clear h_ K_
  refine wpList_nil ?_
  (try simp only [Exit.then, Exit.inBlock, ↓reduceIte, Nat.reduceEqDiff])
  refine hK62 _ _ ?_
  as_aux_lemma =>
  refine wp_cond_true rfl ?_
  refine wp_seq_k (fun K386 hK386 => ?_)
  refine wp_region_lit ?_
  refine wpp fun K_ h_ => ?_; go_simp; refine h_ _ _ ?_; clear h_ K_
  refine wpList_nil ?_
  (try simp only [Exit.then, Exit.inBlock, ↓reduceIte, Nat.reduceEqDiff])
  refine hK386 _ _ ?_
  refine wp_ret ?_
  (try simp only [Exit.then, Exit.inBlock, ↓reduceIte, Nat.reduceEqDiff])
  refine hQf _ _ _ ?_
  exact bodyPost_ret (v := .bool false) (by first | rfl | (simp [results, Try.results4, go_sem]; done) | (simp [results, Try.results4, go_sem]; rfl)) rfl ⟨rfl, (hm64.out.trans hu71.out)⟩
 rw [if_pos c73] at H
 have c73n : (t49 != t57) = false := by rw [bne, c73]; rfl
 replace H := Option.bind_eq_some_iff.mp H
 obtain ⟨t74, A75, H⟩ := H
 replace A75 := Aside0.mk A75
 try dsimp only at H
 try simp only [c73, c73n, Bool.not_true, Bool.not_false]
 refine wpList_step fun K_ h_ => ?_; go_simp; refine h_ _ _ ?_; clear h_ K_
 refine wpList_step fun K_ h_ => ?_; go_simp; refine h_ _ _ ?_; clear h_ K_
 refine step_call rfl (by go_simp <;> rfl) (laws_likeInts.calls K P47 q48 t46 P55 q56 t54 t74 w70 ((ht46.up (hu60.out.trans hu71.out)).rd) ((ht54.up hu71.out).rd) A75.out) ?_
 rintro e w76 ⟨rfl, hu⟩
 have hu77 := Aside0.mk hu
 clear hu
 refine ⟨_, rfl, ?_⟩
 simp only [Act.put, nm1, nm2, nm3, i64_w]
 refine wpList_step fun K_ h_ => ?_; go_simp; refine h_ _ _ ?_; clear h_ K_
 refine wpp fun K_ h_ => ?_; go_simp; refine h_ _ _ ?_; clear h_ K_
 refine wpList_nil ?_
 (try simp only [Exit.then, Exit.inBlock, ↓reduceIte, Nat.reduceEqDiff])
 refine hK62 _ _ ?_
 by_cases c78 : (t74) = true
 rotate_left
 ·
  rw [if_neg c78] at H; replace c78 := Bool.eq_false_iff.mpr c78
  subst c78
  obtain rfl := Option.some.inj H
  refine wp_cond_true rfl ?_
  refine wp_seq_k (fun K385 hK385 => ?_)
  refine wp_region_lit ?_
  refine wpp fun K_ h_ => ?_; go_simp; refine h_ _ _ ?_; clear h_ K_
  refine wpList_nil ?_
  (try simp only [Exit.then, Exit.inBlock, ↓reduceIte, Nat.reduceEqDiff])
  refine hK385 _ _ ?_
  refine wp_ret ?_
  (try simp only [Exit.then, Exit.inBlock, ↓reduceIte, Nat.reduceEqDiff])
  refine hQf _ _ _ ?_
  exact bodyPost_ret (v := .bool false) (by first | rfl | (simp [results, Try.results4, go_sem]; done) | (simp [results, Try.results4, go_sem]; rfl)) rfl ⟨rfl, ((hm64.out.trans hu71.out).trans hu77.out)⟩
 rw [if_pos c78] at H
 subst c78
 refine wp_cond_false rfl ?_
 refine wp_skip ?_
 (try simp only [Exit.then, Exit.inBlock, ↓reduceIte, Nat.reduceEqDiff])
 refine hK61 _ _ ?_
 refine wp_seq_join [false, false, true, false, false, false, false, false, false, false, false, false, false, false, false, false, false, false, true, true, true, true, true, true, true, true, true, false, false, false, false, false, false, false, false, false, false, false, false, false, false, false, false, false, false, false, false, false, false, false, false, false, false, false, false, false, false, false, false, false, false, false, false, false, false, false, false, false, false, false, false, false, false, false, false, false, false, false, false, false, false, false, false, false, false, false, false, false, false, false, false, false, false, false, false, false, false, false, false, false, false, false, false, false, false, false, false, false, false, false, false, false, false, false, false, false, false, false, false, false, false, false, false, false, false, false, true, true, true, true, true, true, true, true, true, true, true, true, true, true, true, true, true, true, true, true, true, true, true, true, true, true, true, true, true, true, true, true, true, true, true, true, true, true, true, true, true, true, true, true, true, true, true, true, true, true, true, true, true, true, true, true, true, true, true, true, true, true, true, true, true, true, true, true, true, true, true, true, true, true, true, true, true] (fun w_ => (laws_FnSpreadPolynomials.j0 K a0) = some (r0) ∧ Up w76 w_) ?_ (fun K237 hK237 => ?_)
 ·
  intro v_ w79 hT_
  clear H
  obtain ⟨H, hu⟩ := hT_
  have hu80 := Aside0.mk hu
  clear hu
  rw [laws_FnSpreadPolynomials.j0] at H
  simp only [ovm, List.toList_toArray, Nat.reduceAdd]
  replace H := Option.bind_eq_some_iff.mp H
  obtain ⟨⟨t82, t83⟩, A84, H⟩ := H
  replace A84 := Aside0.mk A84
  try dsimp only at H
  replace H := Option.bind_eq_some_iff.mp H
  obtain ⟨⟨t88, t91⟩, A92, H⟩ := H
  replace A92 := Aside0.mk A92
  try dsimp only at H
  replace H := Option.bind_eq_some_iff.mp H
  obtain ⟨⟨t96, t99⟩, A100, H⟩ := H
  replace A100 := Aside0.mk A100
  try dsimp only at H
  refine wp_seq_k (fun K81 hK81 => ?_)
  refine wp_region_lit ?_
  refine wpp fun K_ h_ => ?_; go_simp; refine h_ _ _ ?_; clear h_ K_
  refine step_call (wanted_none rfl) (by go_simp <;> rfl) (spec_DrawCoefficientsOf.calls K a0_A a0_c a0 t82 t83 w79 (ha0.up (((hm64.out.trans hu71.out).trans hu77.out).trans hu80.out)) A84.out) ?_
  rintro e w85 ⟨rfl, hu⟩
  have hu86 := Aside0.mk hu
  clear hu
  refine ⟨_, rfl, ?_⟩
  simp only [Act.put, nm1, nm2, nm3, i64_w]
  refine wpp fun K_ h_ => ?_; go_simp; refine h_ _ _ ?_; clear h_ K_
  refine wpp fun K_ h_ => ?_; go_simp; refine h_ _ _ ?_; clear h_ K_
  refine wpp fun K_ h_ => ?_; go_simp; refine h_ _ _ ?_; clear h_ K_
  refine wpp fun K_ h_ => ?_; go_simp; refine h_ _ _ ?_; clear h_ K_
  refine wpp fun K_ h_ => ?_; go_simp; refine h_ _ _ ?_; clear h_ K_
  refine wpList_nil ?_
  (try simp only [Exit.then, Exit.inBlock, ↓reduceIte, Nat.reduceEqDiff])
  refine hK81 _ _ ?_
  as_aux_lemma =>
  refine wp_seq_k (fun K87 hK87 => ?_)
  refine wp_region_lit ?_
  refine wpp fun K_ h_ => ?_; go_simp; refine h_ _ _ ?_; clear h_ K_
  refine wpp fun K_ h_ => ?_; go_simp; refine h_ _ _ ?_; clear h_ K_
  refine step_call (wanted_none rfl) (by go_simp <;> rfl) (impl_CoefficientsOf.calls K t82 t83 t88 t91 w85  A92.out) ?_
  rintro e w93 ⟨P89, q90, rfl, ht88, hu⟩
  have hu94 := Aside0.mk hu
  clear hu
  refine ⟨_, rfl, ?_⟩
  simp only [Act.put, nm1, nm2, nm3, i64_w]
  refine wpp fun K_ h_ => ?_; go_simp; refine h_ _ _ ?_; clear h_ K_
  refine wpp fun K_ h_ => ?_; go_simp; refine h_ _ _ ?_; clear h_ K_
  refine wpp fun K_ h_ => ?_; go_simp; refine h_ _ _ ?_; clear h_ K_
  refine wpp fun K_ h_ => ?_; go_simp; refine h_ _ _ ?_; clear h_ K_
  refine wpp fun K_ h_ => ?_; go_simp; refine h_ _ _ ?_; clear h_ K_
  refine wpList_nil ?_
  (try simp only [Exit.then, Exit.inBlock, ↓reduceIte, Nat.reduceEqDiff])
  refine hK87 _ _ ?_
  refine wp_seq_k (fun K95 hK95 => ?_)
  refine wp_region_lit ?_
  refine wpp fun K_ h_ => ?_; go_simp; refine h_ _ _ ?_; clear h_ K_
  refine wpp fun K_ h_ => ?_; go_simp; refine h_ _ _ ?_; clear h_ K_
  refine step_call (wanted_none rfl) (by go_simp <;> rfl) (spec_CoefficientsOf.calls K t82 t83 t96 t99 w93  A100.out) ?_
  rintro e w101 ⟨P97, q98, rfl, ht96, hu⟩
  have hu102 := Aside0.mk hu
  clear hu
  refine ⟨_, rfl, ?_⟩
  simp only [Act.put, nm1, nm2, nm3, i64_w]
  refine wpp fun K_ h_ => ?_; go_simp; refine h_ _ _ ?_; clear h_ K_
  refine wpp fun K_ h_ => ?_; go_simp; refine h_ _ _ ?_; clear h_ K_
  refine wpp fun K_ h_ => ?_; go_simp; refine h_ _ _ ?_; clear h_ K_
  refine wpp fun K_ h_ => ?_; go_simp; refine h_ _ _ ?_; clear h_ K_
  refine wpp fun K_ h_ => ?_; go_simp; refine h_ _ _ ?_; clear h_ K_
  refine wpList_nil ?_
  (try simp only [Exit.then, Exit.inBlock, ↓reduceIte, Nat.reduceEqDiff])
  refine hK95 _ _ ?_
  refine wp_seq_k (fun K103 hK103 => ?_)
  refine wp_seq_k (fun K104 hK104 => ?_)
  refine wp_region_lit ?_
  refine wpp fun K_ h_ => ?_; go_simp; refine h_ _ _ ?_; clear h_ K_
  refine wpp fun K_ h_ => ?_; go_simp; refine h_ _ _ ?_; clear h_ K_
  refine wpp fun K_ h_ => ?_; go_simp; refine h_ _ _ ?_; clear h_ K_
  refine wpp fun K_ h_ => ?_; go_simp; refine h_ _ _ ?_; clear h_ K_
  have hm106 := Aside0.mk ((((((hm64.out.trans hu71.out).trans hu77.out).trans hu80.out).trans hu86.out).trans hu94.out).trans hu102.out)
  have hm107 := Aside0.mk (Nat.le_trans ((Nat.le_trans ((Nat.le_trans ((Nat.le_trans ((Nat.le_trans ((Nat.le_trans (hm65.out) hu71.out.size)) hu77.out.size)) hu80.out.size)) hu86.out.size)) hu94.out.size)) hu102.out.size)
  by_cases c105 : (t91 == t99) = true
  rotate_left
  ·
   rw [if_neg c105] at H; replace c105 := Bool.eq_false_iff.mpr c105
   have c105n : (t91 != t99) = true := by rw [bne, c105]; rfl
   have c105p : ¬ t91 = t99 := fun e => by simp [e] at c105
   obtain rfl := Option.some.inj H
   try simp only [c105, c105n, Bool.not_true, Bool.not_false]
   refine step_no rfl ?_
   simp only [Act.put, nm1, nm2, nm3, i64_w]
   refine step_no rfl ?_
   simp only [Act.put, nm1, nm2, nm3, i64_w]
   refine step_no rfl ?_
   simp only [Act.put, nm1, nm2, nm3, i64_w]
   refine step_no rfl ?_
   simp only [Act.put, nm1, nm2, nm3, i64_w]
   refine wpp fun K_ h_ => ?_; go_simp; refine h_ _ _ ?_; clear h_ K_
   refine wpList_nil ?_
   (try simp only [Exit.then, Exit.inBlock, ↓reduceIte, Nat.reduceEqDiff])
   refine hK104 _ _ ?_
   refine wp_cond_true rfl ?_
   refine wp_seq_k (fun K236 hK236 => ?_)
   refine wp_region_lit ?_
   refine wpp fun K_ h_ => ?_; go_simp; refine h_ _ _ ?_; clear h_ K_
   refine wpList_nil ?_
   (try simp only [Exit.then, Exit.inBlock, ↓reduceIte, Nat.reduceEqDiff])
   refine hK236 _ _ ?_
   refine wp_ret ?_
   (try simp only [Exit.then, Exit.inBlock, ↓reduceIte, Nat.reduceEqDiff])
   refine hQf _ _ _ ?_
   exact bodyPost_ret (v := .bool false) (by first | rfl | (simp [results, Try.results4, go_sem]; done) | (simp [results, Try.results4, go_sem]; rfl)) rfl ⟨rfl, hm106.out⟩
  rw [if_pos c105] at H
  have c105n : (t91 != t99) = false := by rw [bne, c105]; rfl
  replace H := Option.bind_eq_some_iff.mp H
  obtain ⟨t108, A109, H⟩ := H
  replace A109 := Aside0.mk A109
  try dsimp only at H
  try simp only [c105, c105n, Bool.not_true, Bool.not_false]
  refine wpList_step fun K_ h_ => ?_; go_simp; refine h_ _ _ ?_; clear h_ K_
  refine wpList_step fun K_ h_ => ?_; go_simp; refine h_ _ _ ?_; clear h_ K_
  refine step_call rfl (by go_simp <;> rfl) (laws_likeInts.calls K P89 q90 t88 P97 q98 t96 t108 w101 ((ht88.up hu102.out).rd) ht96.rd A109.out) ?_
  rintro e w110 ⟨rfl, hu⟩
  have hu111 := Aside0.mk hu
  clear hu
  refine ⟨_, rfl, ?_⟩
  simp only [Act.put, nm1, nm2, nm3, i64_w]
  refine wpList_step fun K_ h_ => ?_; go_simp; refine h_ _ _ ?_; clear h_ K_
  refine wpp fun K_ h_ => ?_; go_simp; refine h_ _ _ ?_; clear h_ K_
  refine wpList_nil ?_
  (try simp only [Exit.then, Exit.inBlock, ↓reduceIte, Nat.reduceEqDiff])
  refine hK104 _ _ ?_
  as_aux_lemma =>
  by_cases c112 : (t108) = true
  rotate_left
  ·
   rw [if_neg c112] at H; replace c112 := Bool.eq_false_iff.mpr c112
   subst c112
   obtain rfl := Option.some.inj H
   refine wp_cond_true rfl ?_
   refine wp_seq_k (fun K235 hK235 => ?_)
   refine wp_region_lit ?_
   refine wpp fun K_ h_ => ?_; go_simp; refine h_ _ _ ?_; clear h_ K_
   refine wpList_nil ?_
   (try simp only [Exit.then, Exit.inBlock, ↓reduceIte, Nat.reduceEqDiff])
   refine hK235 _ _ ?_
   refine wp_ret ?_
   (try simp only [Exit.then, Exit.inBlock, ↓reduceIte, Nat.reduceEqDiff])
   refine hQf _ _ _ ?_
   exact bodyPost_ret (v := .bool false) (by first | rfl | (simp [results, Try.results4, go_sem]; done) | (simp [results, Try.results4, go_sem]; rfl)) rfl ⟨rfl, (hm106.out.trans hu111.out)⟩
  rw [if_pos c112] at H
  subst c112
  refine wp_cond_false rfl ?_
  refine wp_skip ?_
  (try simp only [Exit.then, Exit.inBlock, ↓reduceIte, Nat.reduceEqDiff])
  refine hK103 _ _ ?_
  refine wp_seq_join [false, false, true, false, false, false, false, false, false, false, false, false, false, false, false, false, false, false, false, false, false, false, false, false, false, false, false, false, false, false, false, false, false, true, true, true, true, true, false, false, false, false, false, false, false, false, false, false, false, false, false, false, false, false, false, false, false, false, false, false, false, false, false, false, false, false, false, false, false, false, false, false, false, false, false, false, false, false, false, false, false, false, false, false, false, false, false, false, false, false, false, false, false, false, false, false, false, false, false, false, false, false, false, false, false, false, false, false, false, false, false, false, false, false, false, false, false, false, false, false, false, false, false, false, false, false, false, false, false, false, false, false, false, false, false, false, false, false, false, false, false, false, false, false, false, false, false, false, false, false, false, false, false, false, false, false, false, false, false, false, false, false, false, false, false, false, false, false, false, false, false, false, false, false, false, false, false, false, false, false, false, false, false, false, false, false, false, false, false, false, false, false, false, false, false, false, false, false, false, false, false, false, false, false, false, false, false, false, false, false, false, false, false, false, false, false, false, false, false, false, false, false, false, false, false, false, false, false, false, true, true, true, true, true, true, true, true, true, true, true, true, true, true, true, true, true, true, true, true, true, true, true, true, true, true, true, true, true, true, true, true, true, true, true, true, true, true, true, true, true, true, true, true, true, true, true, true, true, true, true] (fun w_ => (laws_FnSpreadPolynomials.j1 K a0) = some (r0) ∧ Up w110 w_) ?_ (fun K166 hK166 => ?_)
  ·
   intro v_ w113 hT_
   clear H
   obtain ⟨H, hu⟩ := hT_
   have hu114 := Aside0.mk hu
   clear hu
   rw [laws_FnSpreadPolynomials.j1] at H
   simp only [ovm, List.toList_toArray, Nat.reduceAdd]
   replace H := Option.bind_eq_some_iff.mp H
   obtain ⟨⟨t116, t117⟩, A118, H⟩ := H
   replace A118 := Aside0.mk A118
   try dsimp only at H
   replace H := Option.bind_eq_some_iff.mp H
   obtain ⟨⟨t122, t123⟩, A124, H⟩ := H
   replace A124 := Aside0.mk A124
   try dsimp only at H
   replace H := Option.bind_eq_some_iff.mp H
   obtain ⟨⟨t128, t129⟩, A130, H⟩ := H
   replace A130 := Aside0.mk A130
   try dsimp only at H
   replace H := Option.bind_eq_some_iff.mp H
   obtain ⟨⟨t134, t137⟩, A138, H⟩ := H
   replace A138 := Aside0.mk A138
   try dsimp only at H
   replace H := Option.bind_eq_some_iff.mp H
   obtain ⟨⟨t142, t145⟩, A146, H⟩ := H
   replace A146 := Aside0.mk A146
   try dsimp only at H
   refine wp_seq_k (fun K115 hK115 => ?_)
   refine wp_region_lit ?_
   refine wpp fun K_ h_ => ?_; go_simp; refine h_ _ _ ?_; clear h_ K_
   refine step_call (wanted_none rfl) (by go_simp <;> rfl) (spec_DrawIsPermutation.calls K a0_A a0_c a0 t116 t117 w113 (ha0.up ((hm106.out.trans hu111.out).trans hu114.out)) A118.out) ?_
   rintro e w119 ⟨rfl, hu⟩
   have hu120 := Aside0.mk hu
   clear hu
   refine ⟨_, rfl, ?_⟩
   simp only [Act.put, nm1, nm2, nm3, i64_w]
   refine wpp fun K_ h_ => ?_; go_simp; refine h_ _ _ ?_; clear h_ K_
   refine wpp fun K_ h_ => ?_; go_simp; refine h_ _ _ ?_; clear h_ K_
   refine wpp fun K_ h_ => ?_; go_simp; refine h_ _ _ ?_; clear h_ K_
   refine wpp fun K_ h_ => ?_; go_simp; refine h_ _ _ ?_; clear h_ K_
   refine wpp fun K_ h_ => ?_; go_simp; refine h_ _ _ ?_; clear h_ K_
   refine wpList_nil ?_
   (try simp only [Exit.then, Exit.inBlock, ↓reduceIte, Nat.reduceEqDiff])
   refine hK115 _ _ ?_
   refine wp_seq_k (fun K121 hK121 => ?_)
   refine wp_region_lit ?_
   refine wpp fun K_ h_ => ?_; go_simp; refine h_ _ _ ?_; clear h_ K_
   refine wpp fun K_ h_ => ?_; go_simp; refine h_ _ _ ?_; clear h_ K_
   refine step_call (wanted_none rfl) (by go_simp <;> rfl) (impl_IsPermutation.calls K t116 t117 t122 t123 w119  A124.out) ?_
   rintro e w125 ⟨rfl, hu⟩
   have hu126 := Aside0.mk hu
   clear hu
   refine ⟨_, rfl, ?_⟩
   simp only [Act.put, nm1, nm2, nm3, i64_w]
   refine wpp fun K_ h_ => ?_; go_simp; refine h_ _ _ ?_; clear h_ K_
   refine wpp fun K_ h_ => ?_; go_simp; refine h_ _ _ ?_; clear h_ K_
   refine wpp fun K_ h_ => ?_; go_simp; refine h_ _ _ ?_; clear h_ K_
   refine wpp fun K_ h_ => ?_; go_simp; refine h_ _ _ ?_; clear h_ K_
   refine wpp fun K_ h_ => ?_; go_simp; refine h_ _ _ ?_; clear h_ K_
   refine wpList_nil ?_
   (try simp only [Exit.then, Exit.inBlock, ↓reduceIte, Nat.reduceEqDiff])
   refine hK121 _ _ ?_
   as_aux_lemma =>
   refine wp_seq_k (fun K127 hK127 => ?_)
   refine wp_region_lit ?_
   refine wpp fun K_ h_ => ?_; go_simp; refine h_ _ _ ?_; clear h_ K_
   refine wpp fun K_ h_ => ?_; go_simp; refine h_ _ _ ?_; clear h_ K_
   refine step_call (wanted_none rfl) (by go_simp <;> rfl) (spec_IsPermutation.calls K t116 t117 t128 t129 w125  A130.out) ?_
   rintro e w131 ⟨rfl, hu⟩
   have hu132 := Aside0.mk hu
   clear hu
   refine ⟨_, rfl, ?_⟩
   simp only [Act.put, nm1, nm2, nm3, i64_w]
   refine wpp fun K_ h_ => ?_; go_simp; refine h_ _ _ ?_; clear h_ K_
   refine wpp fun K_ h_ => ?_; go_simp; refine h_ _ _ ?_; clear h_ K_
   refine wpp fun K_ h_ => ?_; go_simp; refine h_ _ _ ?_; clear h_ K_
   refine wpp fun K_ h_ => ?_; go_simp; refine h_ _ _ ?_; clear h_ K_
   refine wpp fun K_ h_ => ?_; go_simp; refine h_ _ _ ?_; clear h_ K_
   refine wpList_nil ?_
   (try simp only [Exit.then, Exit.inBlock, ↓reduceIte, Nat.reduceEqDiff])
   refine hK127 _ _ ?_
   refine wp_seq_k (fun K133 hK133 => ?_)
   refine wp_region_lit ?_
   refine wpp fun K_ h_ => ?_; go_simp; refine h_ _ _ ?_; clear h_ K_
   refine wpp fun K_ h_ => ?_; go_simp; refine h_ _ _ ?_; clear h_ K_
   refine step_call (wanted_none rfl) (by go_simp <;> rfl) (impl_ValuesOf.calls K t116 t117 t134 t137 w131  A138.out) ?_
   rintro e w139 ⟨P135, q136, rfl, ht134, hu⟩
   have hu140 := Aside0.mk hu
   clear hu
   refine ⟨_, rfl, ?_⟩
   simp only [Act.put, nm1, nm2, nm3, i64_w]
   refine wpp fun K_ h_ => ?_; go_simp; refine h_ _ _ ?_; clear h_ K_
   refine wpp fun K_ h_ => ?_; go_simp; refine h_ _ _ ?_; clear h_ K_
   refine wpp fun K_ h_ => ?_; go_simp; refine h_ _ _ ?_; clear h_ K_
   refine wpp fun K_ h_ => ?_; go_simp; refine h_ _ _ ?_; clear h_ K_
   refine wpp fun K_ h_ => ?_; go_simp; refine h_ _ _ ?_; clear h_ K_
   refine wpList_nil ?_
   (try simp only [Exit.then, Exit.inBlock, ↓reduceIte, Nat.reduceEqDiff])
   refine hK133 _ _ ?_
   refine wp_seq_k (fun K141 hK141 => ?_)
   refine wp_region_lit ?_
   refine wpp fun K_ h_ => ?_; go_simp; refine h_ _ _ ?_; clear h_ K_
   refine wpp fun K_ h_ => ?_; go_simp; refine h_ _ _ ?_; clear h_ K_
   refine step_call (wanted_none rfl) (by go_simp <;> rfl) (spec_ValuesOf.calls K t116 t117 t142 t145 w139  A146.out) ?_
   rintro e w147 ⟨P143, q144, rfl, ht142, hu⟩
   have hu148 := Aside0.mk hu
   clear hu
   refine ⟨_, rfl, ?_⟩
   simp only [Act.put, nm1, nm2, nm3, i64_w]
   refine wpp fun K_ h_ => ?_; go_simp; refine h_ _ _ ?_; clear h_ K_
   refine wpp fun K_ h_ => ?_; go_simp; refine h_ _ _ ?_; clear h_ K_
   refine wpp fun K_ h_ => ?_; go_simp; refine h_ _ _ ?_; clear h_ K_
   refine wpp fun K_ h_ => ?_; go_simp; refine h_ _ _ ?_; clear h_ K_
   refine wpp fun K_ h_ => ?_; go_simp; refine h_ _ _ ?_; clear h_ K_
   refine wpList_nil ?_
   (try simp only [Exit.then, Exit.inBlock, ↓reduceIte, Nat.reduceEqDiff])
   refine hK141 _ _ ?_
   refine wp_seq_k (fun K149 hK149 => ?_)
   refine wp_region_lit ?_
   refine wpp fun K_ h_ => ?_; go_simp; refine h_ _ _ ?_; clear h_ K_
   refine wpp fun K_ h_ => ?_; go_simp; refine h_ _ _ ?_; clear h_ K_
   refine wpp fun K_ h_ => ?_; go_simp; refine h_ _ _ ?_; clear h_ K_
   refine wpp fun K_ h_ => ?_; go_simp; refine h_ _ _ ?_; clear h_ K_
   have hm151 := Aside0.mk (((((((hm106.out.trans hu111.out).trans hu114.out).trans hu120.out).trans hu126.out).trans hu132.out).trans hu140.out).trans hu148.out)
   have hm152 := Aside0.mk (Nat.le_trans ((Nat.le_trans ((Nat.le_trans ((Nat.le_trans ((Nat.le_trans ((Nat.le_trans ((Nat.le_trans (hm107.out) hu111.out.size)) hu114.out.size)) hu120.out.size)) hu126.out.size)) hu132.out.size)) hu140.out.size)) hu148.out.size)
   by_cases c150 : (t123 == t129) = true
   rotate_left
   ·
    rw [if_neg c150] at H; replace c150 := Bool.eq_false_iff.mpr c150
    have c150n : (t123 != t129) = true := by rw [bne, c150]; rfl
    have c150p : ¬ t123 = t129 := fun e => by simp [e] at c150
    obtain rfl := Option.some.inj H
    try simp only [c150, c150n, Bool.not_true, Bool.not_false]
    refine step_no rfl ?_
    simp only [Act.put, nm1, nm2, nm3, i64_w]
    refine step_no rfl ?_
    simp only [Act.put, nm1, nm2, nm3, i64_w]
    refine step_no rfl ?_
    simp only [Act.put, nm1, nm2, nm3, i64_w]
    refine wpp fun K_ h_ => ?_; go_simp; refine h_ _ _ ?_; clear h_ K_
    refine wpp fun K_ h_ => ?_; go_simp; refine h_ _ _ ?_; clear h_ K_
    refine step_no rfl ?_
    simp only [Act.put, nm1, nm2, nm3, i64_w]
    refine step_no rfl ?_
    simp only [Act.put, nm1, nm2, nm3, i64_w]
    refine step_no rfl ?_
    simp only [Act.put, nm1, nm2, nm3, i64_w]
    refine wpp fun K_ h_ => ?_; go_simp; refine h_ _ _ ?_; clear h_ K_
    refine wpp fun K_ h_ => ?_; go_simp; refine h_ _ _ ?_; clear h_ K_
    refine step_no rfl ?_
    simp only [Act.put, nm1, nm2, nm3, i64_w]
    refine step_no rfl ?_
    simp only [Act.put, nm1, nm2, nm3, i64_w]
    refine step_no rfl ?_
    simp only [Act.put, nm1, nm2, nm3, i64_w]
    refine wpp fun K_ h_ => ?_; go_simp; refine h_ _ _ ?_; clear h_ K_
    refine wpp fun K_ h_ => ?_; go_simp; refine h_ _ _ ?_; clear h_ K_
    refine wpList_nil ?_
    (try simp only [Exit.then, Exit.inBlock, ↓reduceIte, Nat.reduceEqDiff])
    refine hK149 _ _ ?_
    as_aux_lemma =>
    refine wp_ret ?_
    (try simp only [Exit.then, Exit.inBlock, ↓reduceIte, Nat.reduceEqDiff])
    refine hQf _ _ _ ?_
    exact bodyPost_ret (v := .bool false) (by first | rfl | (simp [results, Try.results4, go_sem]; done) | (simp [results, Try.results4, go_sem]; rfl)) rfl ⟨rfl, hm151.out⟩
   rw [if_pos c150] at H
   have c150n : (t123 != t129) = false := by rw [bne, c150]; rfl
   try simp only [c150, c150n, Bool.not_true, Bool.not_false]
   refine wpList_step fun K_ h_ => ?_; go_simp; refine h_ _ _ ?_; clear h_ K_
   refine wpList_step fun K_ h_ => ?_; go_simp; refine h_ _ _ ?_; clear h_ K_
   by_cases c153 : (t122) = true
   rotate_left
   ·
    rw [if_neg c153] at H; replace c153 := Bool.eq_false_iff.mpr c153
    subst c153
    by_cases c160 : (t128) = true
    ·
     rw [if_pos c160] at H
     subst c160
     obtain rfl := Option.some.inj H
     refine wpList_step fun K_ h_ => ?_; go_simp; refine h_ _ _ ?_; clear h_ K_
     refine wpp fun K_ h_ => ?_; go_simp; refine h_ _ _ ?_; clear h_ K_
     refine wpp fun K_ h_ => ?_; go_simp; refine h_ _ _ ?_; clear h_ K_
     refine step_no rfl ?_
     simp only [Act.put, nm1, nm2, nm3, i64_w]
     refine step_no rfl ?_
     simp only [Act.put, nm1, nm2, nm3, i64_w]
     refine step_no rfl ?_
     simp only [Act.put, nm1, nm2, nm3, i64_w]
     refine wpp fun K_ h_ => ?_; go_simp; refine h_ _ _ ?_; clear h_ K_
     refine wpp fun K_ h_ => ?_; go_simp; refine h_ _ _ ?_; clear h_ K_
     refine step_no rfl ?_
     simp only [Act.put, nm1, nm2, nm3, i64_w]
     refine step_no rfl ?_
     simp only [Act.put, nm1, nm2, nm3, i64_w]
     refine step_no rfl ?_
     simp only [Act.put, nm1, nm2, nm3, i64_w]
     refine wpp fun K_ h_ => ?_; go_simp; refine h_ _ _ ?_; clear h_ K_
     refine wpp fun K_ h_ => ?_; go_simp; refine h_ _ _ ?_; clear h_ K_
     refine wpList_nil ?_
     (try simp only [Exit.then, Exit.inBlock, ↓reduceIte, Nat.reduceEqDiff])
     refine hK149 _ _ ?_
     refine wp_ret ?_
     (try simp only [Exit.then, Exit.inBlock, ↓reduceIte, Nat.reduceEqDiff])
     refine hQf _ _ _ ?_
     exact bodyPost_ret (v := .bool false) (by first | rfl | (simp [results, Try.results4, go_sem]; done) | (simp [results, Try.results4, go_sem]; rfl)) rfl ⟨rfl, hm151.out⟩
    rw [if_neg c160] at H; replace c160 := Bool.eq_false_iff.mpr c160
    subst c160
    refine wpList_step fun K_ h_ => ?_; go_simp; refine h_ _ _ ?_; clear h_ K_
    refine wpp fun K_ h_ => ?_; go_simp; refine h_ _ _ ?_; clear h_ K_
    refine wpp fun K_ h_ => ?_; go_simp; refine h_ _ _ ?_; clear h_ K_
    refine wpList_step fun K_ h_ => ?_; go_simp; refine h_ _ _ ?_; clear h_ K_
    refine wpList_step fun K_ h_ => ?_; go_simp; refine h_ _ _ ?_; clear h_ K_
    refine wpList_step fun K_ h_ => ?_; go_simp; refine h_ _ _ ?_; clear h_ K_
    refine wpp fun K_ h_ => ?_; go_simp; refine h_ _ _ ?_; clear h_ K_
    refine wpp fun K_ h_ => ?_; go_simp; refine h_ _ _ ?_; clear h_ K_
    by_cases c161 : (t137 == t145) = true
    rotate_left
    ·
     rw [if_neg c161] at H; replace c161 := Bool.eq_false_iff.mpr c161
     have c161n : (t137 != t145) = true := by rw [bne, c161]; rfl
     have c161p : ¬ t137 = t145 := fun e => by simp [e] at c161
     obtain rfl := Option.some.inj H
     try simp only [c161, c161n, Bool.not_true, Bool.not_false]
     refine step_no rfl ?_
     simp only [Act.put, nm1, nm2, nm3, i64_w]
     refine step_no rfl ?_
     simp only [Act.put, nm1, nm2, nm3, i64_w]
     refine step_no rfl ?_
     simp only [Act.put, nm1, nm2, nm3, i64_w]
     refine wpp fun K_ h_ => ?_; go_simp; refine h_ _ _ ?_; clear h_ K_
     refine wpp fun K_ h_ => ?_; go_simp; refine h_ _ _ ?_; clear h_ K_
     refine wpList_nil ?_
     (try simp only [Exit.then, Exit.inBlock, ↓reduceIte, Nat.reduceEqDiff])
     refine hK149 _ _ ?_
     refine wp_ret ?_
     (try simp only [Exit.then, Exit.inBlock, ↓reduceIte, Nat.reduceEqDiff])
     refine hQf _ _ _ ?_
     exact bodyPost_ret (v := .bool false) (by first | rfl | (simp [results, Try.results4, go_sem]; done) | (simp [results, Try.results4, go_sem]; rfl)) rfl ⟨rfl, hm151.out⟩
    rw [if_pos c161] at H
    have c161n : (t137 != t145) = false := by rw [bne, c161]; rfl
    replace H := Option.bind_eq_some_iff.mp H
    obtain ⟨t162, A163, H⟩ := H
    replace A163 := Aside0.mk A163
    try dsimp only at H
    obtain rfl := Option.some.inj H
    try simp only [c161, c161n, Bool.not_true, Bool.not_false]
    refine wpList_step fun K_ h_ => ?_; go_simp; refine h_ _ _ ?_; clear h_ K_
    refine wpList_step fun K_ h_ => ?_; go_simp; refine h_ _ _ ?_; clear h_ K_
    refine step_call rfl (by go_simp <;> rfl) (laws_likeInts.calls K P135 q136 t134 P143 q144 t142 t162 w147 ((ht134.up hu148.out).rd) ht142.rd A163.out) ?_
    rintro e w164 ⟨rfl, hu⟩
    have hu165 := Aside0.mk hu
    clear hu
    refine ⟨_, rfl, ?_⟩
    simp only [Act.put, nm1, nm2, nm3, i64_w]
    refine wpp fun K_ h_ => ?_; go_simp; refine h_ _ _ ?_; clear h_ K_
    refine wpp fun K_ h_ => ?_; go_simp; refine h_ _ _ ?_; clear h_ K_
    refine wpList_nil ?_
    (try simp only [Exit.then, Exit.inBlock, ↓reduceIte, Nat.reduceEqDiff])
    refine hK149 _ _ ?_
    as_aux_lemma =>
    refine wp_ret ?_
    (try simp only [Exit.then, Exit.inBlock, ↓reduceIte, Nat.reduceEqDiff])
    refine hQf _ _ _ ?_
    exact bodyPost_ret (v := .bool t162) (by first | rfl | (simp [results, Try.results4, go_sem]; done) | (simp [results, Try.results4, go_sem]; rfl)) rfl ⟨rfl, (hm151.out.trans hu165.out)⟩
   rw [if_pos c153] at H
   subst c153
   by_cases c154 : (t128) = true
   rotate_left
   ·
    rw [if_neg c154] at H; replace c154 := Bool.eq_false_iff.mpr c154
    subst c154
    obtain rfl := Option.some.inj H
    refine wpList_step fun K_ h_ => ?_; go_simp; refine h_ _ _ ?_; clear h_ K_
    refine wpp fun K_ h_ => ?_; go_simp; refine h_ _ _ ?_; clear h_ K_
    refine wpp fun K_ h_ => ?_; go_simp; refine h_ _ _ ?_; clear h_ K_
    refine step_no rfl ?_
    simp only [Act.put, nm1, nm2, nm3, i64_w]
    refine step_no rfl ?_
    simp only [Act.put, nm1, nm2, nm3, i64_w]
    refine step_no rfl ?_
    simp only [Act.put, nm1, nm2, nm3, i64_w]
    refine wpp fun K_ h_ => ?_; go_simp; refine h_ _ _ ?_; clear h_ K_
    refine wpp fun K_ h_ => ?_; go_simp; refine h_ _ _ ?_; clear h_ K_
    refine step_no rfl ?_
    simp only [Act.put, nm1, nm2, nm3, i64_w]
    refine step_no rfl ?_
    simp only [Act.put, nm1, nm2, nm3, i64_w]
    refine step_no rfl ?_
    simp only [Act.put, nm1, nm2, nm3, i64_w]
    refine wpp fun K_ h_ => ?_; go_simp; refine h_ _ _ ?_; clear h_ K_
    refine wpp fun K_ h_ => ?_; go_simp; refine h_ _ _ ?_; clear h_ K_
    refine wpList_nil ?_
    (try simp only [Exit.then, Exit.inBlock, ↓reduceIte, Nat.reduceEqDiff])
    refine hK149 _ _ ?_
    refine wp_ret ?_
    (try simp only [Exit.then, Exit.inBlock, ↓reduceIte, Nat.reduceEqDiff])
    refine hQf _ _ _ ?_
    exact bodyPost_ret (v := .bool false) (by first | rfl | (simp [results, Try.results4, go_sem]; done) | (simp [results, Try.results4, go_sem]; rfl)) rfl ⟨rfl, hm151.out⟩
   rw [if_pos c154] at H
   subst c154
   refine wpList_step fun K_ h_ => ?_; go_simp; refine h_ _ _ ?_; clear h_ K_
   refine wpp fun K_ h_ => ?_; go_simp; refine h_ _ _ ?_; clear h_ K_
   refine wpp fun K_ h_ => ?_; go_simp; refine h_ _ _ ?_; clear h_ K_
   refine wpList_step fun K_ h_ => ?_; go_simp; refine h_ _ _ ?_; clear h_ K_
   refine wpList_step fun K_ h_ => ?_; go_simp; refine h_ _ _ ?_; clear h_ K_
   refine wpList_step fun K_ h_ => ?_; go_simp; refine h_ _ _ ?_; clear h_ K_
   refine wpp fun K_ h_ => ?_; go_simp; refine h_ _ _ ?_; clear h_ K_
   refine wpp fun K_ h_ => ?_; go_simp; refine h_ _ _ ?_; clear h_ K_
   by_cases c155 : (t137 == t145) = true
   rotate_left
   ·
    rw [if_neg c155] at H; replace c155 := Bool.eq_false_iff.mpr c155
    have c155n : (t137 != t145) = true := by rw [bne, c155]; rfl
    have c155p : ¬ t137 = t145 := fun e => by simp [e] at c155
    obtain rfl := Option.some.inj H
    try simp only [c155, c155n, Bool.not_true, Bool.not_false]
    refine step_no rfl ?_
    simp only [Act.put, nm1, nm2, nm3, i64_w]
    refine step_no rfl ?_
    simp only [Act.put, nm1, nm2, nm3, i64_w]
    refine step_no rfl ?_
    simp only [Act.put, nm1, nm2, nm3, i64_w]
    refine wpp fun K_ h_ => ?_; go_simp; refine h_ _ _ ?_; clear h_ K_
    refine wpp fun K_ h_ => ?_; go_simp; refine h_ _ _ ?_; clear h_ K_
    refine wpList_nil ?_
    (try simp only [Exit.then, Exit.inBlock, ↓reduceIte, Nat.reduceEqDiff])
    refine hK149 _ _ ?_
    refine wp_ret ?_
    (try simp only [Exit.then, Exit.inBlock, ↓reduceIte, Nat.reduceEqDiff])
    refine hQf _ _ _ ?_
    exact bodyPost_ret (v := .bool false) (by first | rfl | (simp [results, Try.results4, go_sem]; done) | (simp [results, Try.results4, go_sem]; rfl)) rfl ⟨rfl, hm151.out⟩
   rw [if_pos c155] at H
   have c155n : (t137 != t145) = false := by rw [bne, c155]; rfl
   replace H := Option.bind_eq_some_iff.mp H
   obtain ⟨t156, A157, H⟩ := H
   replace A157 := Aside0.mk A157
   try dsimp only at H
   obtain rfl := Option.some.inj H
   try simp only [c155, c155n, Bool.not_true, Bool.not_false]
   refine wpList_step fun K_ h_ => ?_; go_simp; refine h_ _ _ ?_; clear h_ K_
   refine wpList_step fun K_ h_ => ?_; go_simp; refine h_ _ _ ?_; clear h_ K_
   refine step_call rfl (by go_simp <;> rfl) (laws_likeInts.calls K P135 q136 t134 P143 q144 t142 t156 w147 ((ht134.up hu148.out).rd) ht142.rd A157.out) ?_
   rintro e w158 ⟨rfl, hu⟩
   have hu159 := Aside0.mk hu
   clear hu
   refine ⟨_, rfl, ?_⟩
   simp only [Act.put, nm1, nm2, nm3, i64_w]
   refine wpp fun K_ h_ => ?_; go_simp; refine h_ _ _ ?_; clear h_ K_
   refine wpp fun K_ h_ => ?_; go_simp; refine h_ _ _ ?_; clear h_ K_
   refine wpList_nil ?_
   (try simp only [Exit.then, Exit.inBlock, ↓reduceIte, Nat.reduceEqDiff])
   refine hK149 _ _ ?_
   as_aux_lemma =>
   refine wp_ret ?_
   (try simp only [Exit.then, Exit.inBlock, ↓reduceIte, Nat.reduceEqDiff])
   refine hQf _ _ _ ?_
   exact bodyPost_ret (v := .bool t156) (by first | rfl | (simp [results, Try.results4, go_sem]; done) | (simp [results, Try.results4, go_sem]; rfl)) rfl ⟨rfl, (hm151.out.trans hu159.out)⟩
  refine wp_seq_k (fun K167 hK167 => ?_)
  refine wp_region_lit ?_
  refine wpp fun K_ h_ => ?_; go_simp; refine h_ _ _ ?_; clear h_ K_
  refine wpp fun K_ h_ => ?_; go_simp; refine h_ _ _ ?_; clear h_ K_
  refine wpList_nil ?_
  (try simp only [Exit.then, Exit.inBlock, ↓reduceIte, Nat.reduceEqDiff])
  refine hK167 _ _ ?_
  by_cases c168 : (t91 == 0) = true
  rotate_left
  ·
   rw [if_neg c168] at H; replace c168 := Bool.eq_false_iff.mpr c168
   have c168n : (t91 != 0) = true := by rw [bne, c168]; rfl
   have c168p : ¬ t91 = 0 := fun e => by simp [e] at c168
   try simp only [c168, c168n, Bool.not_true, Bool.not_false]
   refine wp_cond_false rfl ?_
   refine wp_skip ?_
   (try simp only [Exit.then, Exit.inBlock, ↓reduceIte, Nat.reduceEqDiff])
   exact hK166 _ _ rfl (by kernel_rfl) ⟨H, (Up.refl _)⟩
  rw [if_pos c168] at H
  have c168n : (t91 != 0) = false := by rw [bne, c168]; rfl
  replace H := Option.bind_eq_some_iff.mp H
  obtain ⟨⟨t170, t173⟩, A174, H⟩ := H
  replace A174 := Aside0.mk A174
  try dsimp only at H
  try simp only [c168, c168n, Bool.not_true, Bool.not_false]
  refine wp_cond_true rfl ?_
  refine wp_seq_k (fun K169 hK169 => ?_)
  refine wp_region_lit ?_
  refine wpp fun K_ h_ => ?_; go_simp; refine h_ _ _ ?_; clear h_ K_
  refine wpp fun K_ h_ => ?_; go_simp; refine h_ _ _ ?_; clear h_ K_
  refine step_call (wanted_none rfl) (by go_simp <;> rfl) (impl_ValuesOf.calls K t82 t83 t170 t173 w110  A174.out) ?_
  rintro e w175 ⟨P171, q172, rfl, ht170, hu⟩
  have hu176 := Aside0.mk hu
  clear hu
  refine ⟨_, rfl, ?_⟩
  simp only [Act.put, nm1, nm2, nm3, i64_w]
  refine wpp fun K_ h_ => ?_; go_simp; refine h_ _ _ ?_; clear h_ K_
  refine wpp fun K_ h_ => ?_; go_simp; refine h_ _ _ ?_; clear h_ K_
  refine wpp fun K_ h_ => ?_; go_simp; refine h_ _ _ ?_; clear h_ K_
  refine wpp fun K_ h_ => ?_; go_simp; refine h_ _ _ ?_; clear h_ K_
  refine wpp fun K_ h_ => ?_; go_simp; refine h_ _ _ ?_; clear h_ K_
  refine wpList_nil ?_
  (try simp only [Exit.then, Exit.inBlock, ↓reduceIte, Nat.reduceEqDiff])
  refine hK169 _ _ ?_
  refine wp_seq_k (fun K177 hK177 => ?_)
  refine wp_seq_k (fun K178 hK178 => ?_)
  refine wp_region_lit ?_
  refine wpp fun K_ h_ => ?_; go_simp; refine h_ _ _ ?_; clear h_ K_
  refine wpp fun K_ h_ => ?_; go_simp; refine h_ _ _ ?_; clear h_ K_
  refine wpp fun K_ h_ => ?_; go_simp; refine h_ _ _ ?_; clear h_ K_
  by_cases c179 : (t173 == 0) = true
  rotate_left
  ·
   rw [if_neg c179] at H; replace c179 := Bool.eq_false_iff.mpr c179
   have c179n : (t173 != 0) = true := by rw [bne, c179]; rfl
   have c179p : ¬ t173 = 0 := fun e => by simp [e] at c179
   obtain rfl := Option.some.inj H
   try simp only [c179, c179n, Bool.not_true, Bool.not_false]
   refine step_no rfl ?_
   simp only [Act.put, nm1, nm2, nm3, i64_w]
   refine step_no rfl ?_
   simp only [Act.put, nm1, nm2, nm3, i64_w]
   refine step_no rfl ?_
   simp only [Act.put, nm1, nm2, nm3, i64_w]
   refine step_no rfl ?_
   simp only [Act.put, nm1, nm2, nm3, i64_w]
   refine wpp fun K_ h_ => ?_; go_simp; refine h_ _ _ ?_; clear h_ K_
   refine wpp fun K_ h_ => ?_; go_simp; refine h_ _ _ ?_; clear h_ K_
   refine step_no rfl ?_
   simp only [Act.put, nm1, nm2, nm3, i64_w]
   refine step_no rfl ?_
   simp only [Act.put, nm1, nm2, nm3, i64_w]
   refine step_no rfl ?_
   simp only [Act.put, nm1, nm2, nm3, i64_w]
   refine step_no rfl ?_
   simp only [Act.put, nm1, nm2, nm3, i64_w]
   refine step_no rfl ?_
   simp only [Act.put, nm1, nm2, nm3, i64_w]
   refine wpp fun K_ h_ => ?_; go_simp; refine h_ _ _ ?_; clear h_ K_
   refine wpList_nil ?_
   (try simp only [Exit.then, Exit.inBlock, ↓reduceIte, Nat.reduceEqDiff])
   refine hK178 _ _ ?_
   as_aux_lemma =>
   refine wp_cond_true rfl ?_
   refine wp_seq_k (fun K234 hK234 => ?_)
   refine wp_region_lit ?_
   refine wpp fun K_ h_ => ?_; go_simp; refine h_ _ _ ?_; clear h_ K_
   refine wpList_nil ?_
   (try simp only [Exit.then, Exit.inBlock, ↓reduceIte, Nat.reduceEqDiff])
   refine hK234 _ _ ?_
   refine wp_ret ?_
   (try simp only [Exit.then, Exit.inBlock, ↓reduceIte, Nat.reduceEqDiff])
   refine hQf _ _ _ ?_
   exact bodyPost_ret (v := .bool false) (by first | rfl | (simp [results, Try.results4, go_sem]; done) | (simp [results, Try.results4, go_sem]; rfl)) rfl ⟨rfl, ((hm106.out.trans hu111.out).trans hu176.out)⟩
  rw [if_pos c179] at H
  have c179n : (t173 != 0) = false := by rw [bne, c179]; rfl
  try simp only [c179, c179n, Bool.not_true, Bool.not_false]
  refine wpList_step fun K_ h_ => ?_; go_simp; refine h_ _ _ ?_; clear h_ K_
  refine wpList_step fun K_ h_ => ?_; go_simp; refine h_ _ _ ?_; clear h_ K_
  refine wpList_step fun K_ h_ => ?_; go_simp; refine h_ _ _ ?_; clear h_ K_
  refine wpList_step fun K_ h_ => ?_; go_simp; refine h_ _ _ ?_; clear h_ K_
  refine wpp fun K_ h_ => ?_; go_simp; refine h_ _ _ ?_; clear h_ K_
  refine wpp fun K_ h_ => ?_; go_simp; refine h_ _ _ ?_; clear h_ K_
  by_cases c180 : ((t170.length : Int) == t82) = true
  rotate_left
  ·
   rw [if_neg c180] at H; replace c180 := Bool.eq_false_iff.mpr c180
   have c180n : ((t170.length : Int) != t82) = true := by rw [bne, c180]; rfl
   have c180p : ¬ (t170.length : Int) = t82 := fun e => by simp [e] at c180
   obtain rfl := Option.some.inj H
   try simp only [c180, c180n, Bool.not_true, Bool.not_false]
   refine step_no rfl ?_
   simp only [Act.put, nm1, nm2, nm3, i64_w]
   refine step_no rfl ?_
   simp only [Act.put, nm1, nm2, nm3, i64_w]
   refine step_no rfl ?_
   simp only [Act.put, nm1, nm2, nm3, i64_w]
   refine step_no rfl ?_
   simp only [Act.put, nm1, nm2, nm3, i64_w]
   refine step_no rfl ?_
   simp only [Act.put, nm1, nm2, nm3, i64_w]
   refine wpp fun K_ h_ => ?_; go_simp; refine h_ _ _ ?_; clear h_ K_
   refine wpList_nil ?_
   (try simp only [Exit.then, Exit.inBlock, ↓reduceIte, Nat.reduceEqDiff])
   refine hK178 _ _ ?_
   refine wp_cond_true rfl ?_
   refine wp_seq_k (fun K233 hK233 => ?_)
   refine wp_region_lit ?_
   refine wpp fun K_ h_ => ?_; go_simp; refine h_ _ _ ?_; clear h_ K_
   refine wpList_nil ?_
   (try simp only [Exit.then, Exit.inBlock, ↓reduceIte, Nat.reduceEqDiff])
   refine hK233 _ _ ?_
   refine wp_ret ?_
   (try simp only [Exit.then, Exit.inBlock, ↓reduceIte, Nat.reduceEqDiff])
   refine hQf _ _ _ ?_
   exact bodyPost_ret (v := .bool false) (by first | rfl | (simp [results, Try.results4, go_sem]; done) | (simp [results, Try.results4, go_sem]; rfl)) rfl ⟨rfl, ((hm106.out.trans hu111.out).trans hu176.out)⟩
  rw [if_pos c180] at H
  have c180n : ((t170.length : Int) != t82) = false := by rw [bne, c180]; rfl
  try simp only [c180, c180n, Bool.not_true, Bool.not_false]
  refine wpList_step fun K_ h_ => ?_; go_simp; refine h_ _ _ ?_; clear h_ K_
  refine wpList_step fun K_ h_ => ?_; go_simp; refine h_ _ _ ?_; clear h_ K_
  refine wpList_step fun K_ h_ => ?_; go_simp; refine h_ _ _ ?_; clear h_ K_
  refine wpList_step fun K_ h_ => ?_; go_simp; refine h_ _ _ ?_; clear h_ K_
  refine wpList_step fun K_ h_ => ?_; go_simp; refine h_ _ _ ?_; clear h_ K_
  refine wpp fun K_ h_ => ?_; go_simp; refine h_ _ _ ?_; clear h_ K_
  refine wpList_nil ?_
  (try simp only [Exit.then, Exit.inBlock, ↓reduceIte, Nat.reduceEqDiff])
  refine hK178 _ _ ?_
  by_cases c181 : ((t88.length : Int) == (wrap64 (t83 + 1))) = true
  rotate_left
  ·
   rw [if_neg c181] at H; replace c181 := Bool.eq_false_iff.mpr c181
   have c181n : ((t88.length : Int) != (wrap64 (t83 + 1))) = true := by rw [bne, c181]; rfl
   have c181p : ¬ (t88.length : Int) = (wrap64 (t83 + 1)) := fun e => by simp [e] at c181
   obtain rfl := Option.some.inj H
   try simp only [c181, c181n, Bool.not_true, Bool.not_false]
   refine wp_cond_true rfl ?_
   refine wp_seq_k (fun K232 hK232 => ?_)
   refine wp_region_lit ?_
   refine wpp fun K_ h_ => ?_; go_simp; refine h_ _ _ ?_; clear h_ K_
   refine wpList_nil ?_
   (try simp only [Exit.then, Exit.inBlock, ↓reduceIte, Nat.reduceEqDiff])
   refine hK232 _ _ ?_
   as_aux_lemma =>
   refine wp_ret ?_
   (try simp only [Exit.then, Exit.inBlock, ↓reduceIte, Nat.reduceEqDiff])
   refine hQf _ _ _ ?_
   exact bodyPost_ret (v := .bool false) (by first | rfl | (simp [results, Try.results4, go_sem]; done) | (simp [results, Try.results4, go_sem]; rfl)) rfl ⟨rfl, ((hm106.out.trans hu111.out).trans hu176.out)⟩
  rw [if_pos c181] at H
  have c181n : ((t88.length : Int) != (wrap64 (t83 + 1))) = false := by rw [bne, c181]; rfl
  try simp only [c181, c181n, Bool.not_true, Bool.not_false]
  refine wp_cond_false rfl ?_
  refine wp_skip ?_
  (try simp only [Exit.then, Exit.inBlock, ↓reduceIte, Nat.reduceEqDiff])
  refine hK177 _ _ ?_
  refine wp_seq_k (fun K182 hK182 => ?_)
  refine wp_region_lit ?_
  refine wpp fun K_ h_ => ?_; go_simp; refine h_ _ _ ?_; clear h_ K_
  refine wpList_nil ?_
  (try simp only [Exit.then, Exit.inBlock, ↓reduceIte, Nat.reduceEqDiff])
  refine hK182 _ _ ?_
  refine wp_block ?_
  have HL187 := Aside0.mk H
  clear H
  go_loopg [35] K (fun kq v35 w' => ∃ (x183 : Int), v35 = .int .i64 x183 ∧ Aside0 (laws_FnSpreadPolynomials.l0 K a0 t82 t88 t170 kq x183 = some (r0)) ∧ Aside0 (kq ≤ K) ∧ Aside0 (Up w175 w') ∧ Aside0 (w175.heap.size ≤ w'.heap.size))
  case atStart => exact ⟨0, (by first | rfl | simp), HL187, ⟨Nat.le_refl _⟩, ⟨(Up.refl _)⟩, ⟨Nat.le_refl _⟩⟩
  case round =>
   rename_i J191 K192 hJ191 hK192
   obtain ⟨x183, rfl, HL190, hk189, hu185, hz186⟩ := hrel
   obtain ⟨w184, rfl⟩ : ∃ wo : World, wo = wr := ⟨_, rfl⟩
   obtain ⟨k188, rfl⟩ | rfl : (∃ k, gk = k + 1) ∨ gk = 0 := by rcases gk with _ | k; exact .inr rfl; exact .inl ⟨k, rfl⟩
   case inr => exact absurd HL190.out (by simp [laws_FnSpreadPolynomials.l0])
   have H := HL190.out
   clear HL190
   rw [laws_FnSpreadPolynomials.l0] at H
   refine wp_seq_k (fun K193 hK193 => ?_)
   refine wp_seq_k (fun K194 hK194 => ?_)
   refine wp_region_lit ?_
   refine wpp fun K_ h_ => ?_; go_simp; refine h_ _ _ ?_; clear h_ K_
   refine wpp fun K_ h_ => ?_; go_simp; refine h_ _ _ ?_; clear h_ K_
   refine wpp fun K_ h_ => ?_; go_simp; refine h_ _ _ ?_; clear h_ K_
   refine wpList_nil ?_
   (try simp only [Exit.then, Exit.inBlock, ↓reduceIte, Nat.reduceEqDiff])
   refine hK194 _ _ ?_
   have hm196 := Aside0.mk (Nat.le_trans ((Nat.le_trans ((Nat.le_trans (hm107.out) hu111.out.size)) hu176.out.size)) hz186.out)
   by_cases c195 : (decide (x183 < t82)) = true
   rotate_left
   ·
    rw [if_neg c195] at H; replace c195 := Bool.eq_false_iff.mpr c195
    try simp only [c195, Bool.not_true, Bool.not_false]
    refine wp_cond_false rfl ?_
    refine wp_exit ?_
    (try simp only [Exit.then, Exit.inBlock, ↓reduceIte, Nat.reduceEqDiff])
    exact hK166 _ _ rfl (by kernel_rfl) ⟨H, (hu176.out.trans hu185.out)⟩
   rw [if_pos c195] at H
   try simp only [c195, Bool.not_true, Bool.not_false]
   refine wp_cond_true rfl ?_
   refine wp_skip ?_
   (try simp only [Exit.then, Exit.inBlock, ↓reduceIte, Nat.reduceEqDiff])
   refine hK193 _ _ ?_
   refine wp_seq_k (fun K197 hK197 => ?_)
   refine wp_block ?_
   refine wp_seq_k (fun K198 hK198 => ?_)
   refine wp_region_lit ?_
   refine wpp fun K_ h_ => ?_; go_simp; refine h_ _ _ ?_; clear h_ K_
   refine wpList_nil ?_
   (try simp only [Exit.then, Exit.inBlock, ↓reduceIte, Nat.reduceEqDiff])
   refine hK198 _ _ ?_
   refine wp_seq_k (fun K199 hK199 => ?_)
   refine wp_seq_k (fun K200 hK200 => ?_)
   refine wp_region_lit ?_
   refine wpp fun K_ h_ => ?_; go_simp; refine h_ _ _ ?_; clear h_ K_
   refine wpp fun K_ h_ => ?_; go_simp; refine h_ _ _ ?_; clear h_ K_
   refine wpp fun K_ h_ => ?_; go_simp; refine h_ _ _ ?_; clear h_ K_
   refine wpp fun K_ h_ => ?_; go_simp; refine h_ _ _ ?_; clear h_ K_
   refine wpList_nil ?_
   (try simp only [Exit.then, Exit.inBlock, ↓reduceIte, Nat.reduceEqDiff])
   refine hK200 _ _ ?_
   refine wp_block ?_
   have HL206 := Aside0.mk H
   clear H
   go_loopg [36, 37] k188 (fun kq v36 v37 w' => ∃ (x201 : Int) (x202 : Int), v36 = .int .i64 x201 ∧ v37 = .int .i64 x202 ∧ Aside0 (laws_FnSpreadPolynomials.l1 K a0 t82 t88 t170 x183 kq x201 x202 = some (r0)) ∧ Aside0 (kq ≤ k188) ∧ Aside0 (Up w184 w') ∧ Aside0 (w184.heap.size ≤ w'.heap.size))
   case atStart => exact ⟨0, wrap64 ((t88.length : Int) - 1), (by first | rfl | simp), (by first | rfl | simp), HL206, ⟨Nat.le_refl _⟩, ⟨(Up.refl _)⟩, ⟨Nat.le_refl _⟩⟩
   case round =>
    rename_i J210 K211 hJ210 hK211
    obtain ⟨x201, x202, rfl, rfl, HL209, hk208, hu204, hz205⟩ := hrel
    obtain ⟨w203, rfl⟩ : ∃ wo : World, wo = wr := ⟨_, rfl⟩
    obtain ⟨k207, rfl⟩ | rfl : (∃ k, gk = k + 1) ∨ gk = 0 := by rcases gk with _ | k; exact .inr rfl; exact .inl ⟨k, rfl⟩
    case inr => exact absurd HL209.out (by simp [laws_FnSpreadPolynomials.l1])
    have H := HL209.out
    clear HL209
    rw [laws_FnSpreadPolynomials.l1] at H
    refine wp_seq_k (fun K212 hK212 => ?_)
    refine wp_seq_k (fun K213 hK213 => ?_)
    refine wp_region_lit ?_
    refine wpp fun K_ h_ => ?_; go_simp; refine h_ _ _ ?_; clear h_ K_
    refine wpp fun K_ h_ => ?_; go_simp; refine h_ _ _ ?_; clear h_ K_
    refine wpList_nil ?_
    (try simp only [Exit.then, Exit.inBlock, ↓reduceIte, Nat.reduceEqDiff])
    refine hK213 _ _ ?_
    as_aux_lemma =>
    by_cases c214 : (decide (0 ≤ x202)) = true
    ·
     rw [if_pos c214] at H
     replace H := Option.bind_eq_some_iff.mp H
     obtain ⟨t216, A217, H⟩ := H
     replace A217 := Aside0.mk A217
     try dsimp only at H
     try simp only [c214, Bool.not_true, Bool.not_false]
     refine wp_cond_true rfl ?_
     refine wp_skip ?_
     (try simp only [Exit.then, Exit.inBlock, ↓reduceIte, Nat.reduceEqDiff])
     refine hK212 _ _ ?_
     refine wp_seq_k (fun K215 hK215 => ?_)
     refine wp_block ?_
     refine wp_region_lit ?_
     refine wpp fun K_ h_ => ?_; go_simp; refine h_ _ _ ?_; clear h_ K_
     refine wpp fun K_ h_ => ?_; go_simp; refine h_ _ _ ?_; clear h_ K_
     refine wpp fun K_ h_ => ?_; go_simp; refine h_ _ _ ?_; clear h_ K_
     refine wpp fun K_ h_ => ?_; go_simp; refine h_ _ _ ?_; clear h_ K_
     refine wpp fun K_ h_ => ?_; go_simp; refine h_ _ _ ?_; clear h_ K_
     refine step_index eI (T := 2) (wanted_none rfl) rfl (by kernel_rfl) (by kernel_rfl) rfl rfl rfl (ht88.up ((((hu102.out.trans hu111.out).trans hu176.out).trans hu185.out).trans hu204.out)).rd A217.out ?_
     intro ad218 hat he
     have he219 := Aside0.mk he
     have hat220 := Aside0.mk hat
     clear he hat
     simp only [Act.put, nm1, nm2, nm3, i64_w]
     have cl0 := he219.out 0 _ rfl
     rw [addr_add0] at cl0
     refine wpp fun K_ h_ => ?_; go_simp; refine h_ _ _ ?_; clear h_ K_
     clear cl0
     refine wpp fun K_ h_ => ?_; go_simp; refine h_ _ _ ?_; clear h_ K_
     refine wpp fun K_ h_ => ?_; go_simp; refine h_ _ _ ?_; clear h_ K_
     by_cases c221 : (t82 == 0) = true
     ·
      rw [if_pos c221] at H
      have c221n : (t82 != 0) = false := by rw [bne, c221]; rfl
      exact absurd H (by simp)
     rw [if_neg c221] at H; replace c221 := Bool.eq_false_iff.mpr c221
     have c221n : (t82 != 0) = true := by rw [bne, c221]; rfl
     have c221p : ¬ t82 = 0 := fun e => by simp [e] at c221
     have HL222 := Aside0.mk H
     clear H
     try simp only [c221, c221n, Bool.not_true, Bool.not_false]
     refine wpp fun K_ h_ => ?_; go_simp; refine h_ _ _ ?_; clear h_ K_
     refine wpp fun K_ h_ => ?_; go_simp; refine h_ _ _ ?_; clear h_ K_
     refine wpList_nil ?_
     (try simp only [Exit.then, Exit.inBlock, ↓reduceIte, Nat.reduceEqDiff])
     refine hK215 _ _ ?_
     refine wp_region_lit ?_
     refine wpp fun K_ h_ => ?_; go_simp; refine h_ _ _ ?_; clear h_ K_
     refine wpp fun K_ h_ => ?_; go_simp; refine h_ _ _ ?_; clear h_ K_
     refine wpp fun K_ h_ => ?_; go_simp; refine h_ _ _ ?_; clear h_ K_
     refine wpList_nil ?_
     (try simp only [Exit.then, Exit.inBlock, ↓reduceIte, Nat.reduceEqDiff])
     refine hK211 _ _ ?_
     go_roundg k207
     case measure => exact Nat.lt_succ_self _
     case rel => exact ⟨Int.tmod (wrap64 ((wrap64 (x201 * x183)) + t216)) t82, wrap64 (x202 - 1), (by first | rfl | simp), (by first | rfl | simp), HL222, ⟨by have := hk189.out; have := hk208.out; omega⟩, ⟨hu204.out⟩, ⟨(Nat.le_trans (Nat.le_refl _) hz205.out)⟩⟩
    rw [if_neg c214] at H; replace c214 := Bool.eq_false_iff.mpr c214
    replace H := Option.bind_eq_some_iff.mp H
    obtain ⟨t224, A225, H⟩ := H
    replace A225 := Aside0.mk A225
    try dsimp only at H
    try simp only [c214, Bool.not_true, Bool.not_false]
    refine wp_cond_false rfl ?_
    refine wp_exit ?_
    (try simp only [Exit.then, Exit.inBlock, ↓reduceIte, Nat.reduceEqDiff])
    refine hK199 _ _ ?_
    refine wp_seq_k (fun K223 hK223 => ?_)
    refine wp_region_lit ?_
    refine wpp fun K_ h_ => ?_; go_simp; refine h_ _ _ ?_; clear h_ K_
    refine wpp fun K_ h_ => ?_; go_simp; refine h_ _ _ ?_; clear h_ K_
    refine wpp fun K_ h_ => ?_; go_simp; refine h_ _ _ ?_; clear h_ K_
    refine step_index eI (T := 2) (wanted_none rfl) rfl (by kernel_rfl) (by kernel_rfl) rfl rfl rfl (ht170.up (hu185.out.trans hu204.out)).rd A225.out ?_
    intro ad226 hat he
    have he227 := Aside0.mk he
    have hat228 := Aside0.mk hat
    clear he hat
    simp only [Act.put, nm1, nm2, nm3, i64_w]
    have cl0 := he227.out 0 _ rfl
    rw [addr_add0] at cl0
    refine wpp fun K_ h_ => ?_; go_simp; refine h_ _ _ ?_; clear h_ K_
    clear cl0
    refine wpp fun K_ h_ => ?_; go_simp; refine h_ _ _ ?_; clear h_ K_
    refine wpList_nil ?_
    (try simp only [Exit.then, Exit.inBlock, ↓reduceIte, Nat.reduceEqDiff])
    refine hK223 _ _ ?_
    as_aux_lemma =>
    by_cases c229 : (x201 == t224) = true
    rotate_left
    ·
     rw [if_neg c229] at H; replace c229 := Bool.eq_false_iff.mpr c229
     have c229n : (x201 != t224) = true := by rw [bne, c229]; rfl
     have c229p : ¬ x201 = t224 := fun e => by simp [e] at c229
     obtain rfl := Option.some.inj H
     try simp only [c229, c229n, Bool.not_true, Bool.not_false]
     refine wp_cond_true rfl ?_
     refine wp_seq_k (fun K231 hK231 => ?_)
     refine wp_region_lit ?_
     refine wpp fun K_ h_ => ?_; go_simp; refine h_ _ _ ?_; clear h_ K_
     refine wpList_nil ?_
     (try simp only [Exit.then, Exit.inBlock, ↓reduceIte, Nat.reduceEqDiff])
     refine hK231 _ _ ?_
     refine wp_ret ?_
     (try simp only [Exit.then, Exit.inBlock, ↓reduceIte, Nat.reduceEqDiff])
     refine hQf _ _ _ ?_
     exact bodyPost_ret (v := .bool false) (by first | rfl | (simp [results, Try.results4, go_sem]; done) | (simp [results, Try.results4, go_sem]; rfl)) rfl ⟨rfl, ((((hm106.out.trans hu111.out).trans hu176.out).trans hu185.out).trans hu204.out)⟩
    rw [if_pos c229] at H
    have c229n : (x201 != t224) = false := by rw [bne, c229]; rfl
    have HL230 := Aside0.mk H
    clear H
    try simp only [c229, c229n, Bool.not_true, Bool.not_false]
    refine wp_cond_false rfl ?_
    refine wp_skip ?_
    (try simp only [Exit.then, Exit.inBlock, ↓reduceIte, Nat.reduceEqDiff])
    refine hK197 _ _ ?_
    refine wp_region_lit ?_
    refine wpp fun K_ h_ => ?_; go_simp; refine h_ _ _ ?_; clear h_ K_
    refine wpp fun K_ h_ => ?_; go_simp; refine h_ _ _ ?_; clear h_ K_
    refine wpp fun K_ h_ => ?_; go_simp; refine h_ _ _ ?_; clear h_ K_
    refine wpList_nil ?_
    (try simp only [Exit.then, Exit.inBlock, ↓reduceIte, Nat.reduceEqDiff])
    refine hK192 _ _ ?_
    go_roundg k207
    case measure => have := hk189.out; have := hk208.out; omega
    case rel => exact ⟨wrap64 (x183 + 1), (by first | rfl | simp), HL230, ⟨by have := hk189.out; have := hk208.out; omega⟩, ⟨(hu185.out.trans hu204.out)⟩, ⟨(Nat.le_trans ((Nat.le_trans (Nat.le_refl _) hz186.out)) hz205.out)⟩⟩
 refine wp_seq_k (fun K238 hK238 => ?_)
 refine wp_region_lit ?_
 refine wpp fun K_ h_ => ?_; go_simp; refine h_ _ _ ?_; clear h_ K_
 refine wpp fun K_ h_ => ?_; go_simp; refine h_ _ _ ?_; clear h_ K_
 refine wpList_nil ?_
 (try simp only [Exit.then, Exit.inBlock, ↓reduceIte, Nat.reduceEqDiff])
 refine hK238 _ _ ?_
 by_cases c239 : (t19 == 0) = true
 rotate_left
 ·
  rw [if_neg c239] at H; replace c239 := Bool.eq_false_iff.mpr c239
  have c239n : (t19 != 0) = true := by rw [bne, c239]; rfl
  have c239p : ¬ t19 = 0 := fun e => by simp [e] at c239
  try simp only [c239, c239n, Bool.not_true, Bool.not_false]
  refine wp_cond_false rfl ?_
  refine wp_skip ?_
  (try simp only [Exit.then, Exit.inBlock, ↓reduceIte, Nat.reduceEqDiff])
  exact hK237 _ _ rfl (by kernel_rfl) ⟨H, (Up.refl _)⟩
 rw [if_pos c239] at H
 have c239n : (t19 != 0) = false := by rw [bne, c239]; rfl
 replace H := Option.bind_eq_some_iff.mp H
 obtain ⟨⟨t241, t242⟩, A243, H⟩ := H
 replace A243 := Aside0.mk A243
 try dsimp only at H
 try simp only [c239, c239n, Bool.not_true, Bool.not_false]
 refine wp_cond_true rfl ?_
 refine wp_seq_k (fun K240 hK240 => ?_)
 refine wp_region_lit ?_
 refine wpp fun K_ h_ => ?_; go_simp; refine h_ _ _ ?_; clear h_ K_
 refine wpp fun K_ h_ => ?_; go_simp; refine h_ _ _ ?_; clear h_ K_
 refine step_call (wanted_none rfl) (by go_simp <;> rfl) (impl_OrderOfSpread.calls K t11 t13 t241 t242 w76  A243.out) ?_
 rintro e w244 ⟨rfl, hu⟩
 have hu245 := Aside0.mk hu
 clear hu
 refine ⟨_, rfl, ?_⟩
 simp only [Act.put, nm1, nm2, nm3, i64_w]
 refine wpp fun K_ h_ => ?_; go_simp; refine h_ _ _ ?_; clear h_ K_
 refine wpp fun K_ h_ => ?_; go_simp; refine h_ _ _ ?_; clear h_ K_
 refine wpp fun K_ h_ => ?_; go_simp; refine h_ _ _ ?_; clear h_ K_
 refine wpp fun K_ h_ => ?_; go_simp; refine h_ _ _ ?_; clear h_ K_
 refine wpp fun K_ h_ => ?_; go_simp; refine h_ _ _ ?_; clear h_ K_
 refine wpList_nil ?_
 (try simp only [Exit.then, Exit.inBlock, ↓reduceIte, Nat.reduceEqDiff])
 refine hK240 _ _ ?_
 as_aux_lemma =>
 refine wp_seq_k (fun K246 hK246 => ?_)
 refine wp_seq_k (fun K247 hK247 => ?_)
 refine wp_region_lit ?_
 refine wpp fun K_ h_ => ?_; go_simp; refine h_ _ _ ?_; clear h_ K_
 refine wpp fun K_ h_ => ?_; go_simp; refine h_ _ _ ?_; clear h_ K_
 refine wpp fun K_ h_ => ?_; go_simp; refine h_ _ _ ?_; clear h_ K_
 have hm249 := Aside0.mk (Nat.le_trans ((Nat.le_trans ((Nat.le_trans (hm65.out) hu71.out.size)) hu77.out.size)) hu245.out.size)
 by_cases c248 : (t242 == 0) = true
 rotate_left
 ·
  rw [if_neg c248] at H; replace c248 := Bool.eq_false_iff.mpr c248
  have c248n : (t242 != 0) = true := by rw [bne, c248]; rfl
  have c248p : ¬ t242 = 0 := fun e => by simp [e] at c248
  obtain rfl := Option.some.inj H
  try simp only [c248, c248n, Bool.not_true, Bool.not_false]
  refine step_no rfl ?_
  simp only [Act.put, nm1, nm2, nm3, i64_w]
  refine step_no rfl ?_
  simp only [Act.put, nm1, nm2, nm3, i64_w]
  refine step_no rfl ?_
  simp only [Act.put, nm1, nm2, nm3, i64_w]
  refine step_no rfl ?_
  simp only [Act.put, nm1, nm2, nm3, i64_w]
  refine step_no rfl ?_
  simp only [Act.put, nm1, nm2, nm3, i64_w]
  refine step_no rfl ?_
  simp only [Act.put, nm1, nm2, nm3, i64_w]
  refine step_no rfl ?_
  simp only [Act.put, nm1, nm2, nm3, i64_w]
  refine wpp fun K_ h_ => ?_; go_simp; refine h_ _ _ ?_; clear h_ K_
  refine wpp fun K_ h_ => ?_; go_simp; refine h_ _ _ ?_; clear h_ K_
  refine step_no rfl ?_
  simp only [Act.put, nm1, nm2, nm3, i64_w]
  refine step_no rfl ?_
  simp only [Act.put, nm1, nm2, nm3, i64_w]
  refine step_no rfl ?_
  simp only [Act.put, nm1, nm2, nm3, i64_w]
  refine step_no rfl ?_
  simp only [Act.put, nm1, nm2, nm3, i64_w]
  refine step_no rfl ?_
  simp only [Act.put, nm1, nm2, nm3, i64_w]
  refine step_no rfl ?_
  simp only [Act.put, nm1, nm2, nm3, i64_w]
  refine wpp fun K_ h_ => ?_; go_simp; refine h_ _ _ ?_; clear h_ K_
  refine wpList_nil ?_
  (try simp only [Exit.then, Exit.inBlock, ↓reduceIte, Nat.reduceEqDiff])
  refine hK247 _ _ ?_
  refine wp_cond_true rfl ?_
  refine wp_seq_k (fun K384 hK384 => ?_)
  refine wp_region_lit ?_
  refine wpp fun K_ h_ => ?_; go_simp; refine h_ _ _ ?_; clear h_ K_
  refine wpList_nil ?_
  (try simp only [Exit.then, Exit.inBlock, ↓reduceIte, Nat.reduceEqDiff])
  refine hK384 _ _ ?_
  refine wp_ret ?_
  (try simp only [Exit.then, Exit.inBlock, ↓reduceIte, Nat.reduceEqDiff])
  refine hQf _ _ _ ?_
  exact bodyPost_ret (v := .bool false) (by first | rfl | (simp [results, Try.results4, go_sem]; done) | (simp [results, Try.results4, go_sem]; rfl)) rfl ⟨rfl, (((hm64.out.trans hu71.out).trans hu77.out).trans hu245.out)⟩
 rw [if_pos c248] at H
 have c248n : (t242 != 0) = false := by rw [bne, c248]; rfl
 try simp only [c248, c248n, Bool.not_true, Bool.not_false]
 refine wpList_step fun K_ h_ => ?_; go_simp; refine h_ _ _ ?_; clear h_ K_
 refine wpList_step fun K_ h_ => ?_; go_simp; refine h_ _ _ ?_; clear h_ K_
 refine wpList_step fun K_ h_ => ?_; go_simp; refine h_ _ _ ?_; clear h_ K_
 refine wpList_step fun K_ h_ => ?_; go_simp; refine h_ _ _ ?_; clear h_ K_
 by_cases c250 : (t241 == 0) = true
 ·
  rw [if_pos c250] at H
  have c250n : (t241 != 0) = false := by rw [bne, c250]; rfl
  exact absurd H (by simp)
 rw [if_neg c250] at H; replace c250 := Bool.eq_false_iff.mpr c250
 have c250n : (t241 != 0) = true := by rw [bne, c250]; rfl
 have c250p : ¬ t241 = 0 := fun e => by simp [e] at c250
 try simp only [c250, c250n, Bool.not_true, Bool.not_false]
 refine wpList_step fun K_ h_ => ?_; go_simp; refine h_ _ _ ?_; clear h_ K_
 refine wpList_step fun K_ h_ => ?_; go_simp; refine h_ _ _ ?_; clear h_ K_
 by_cases c251 : (t18 == 0) = true
 rotate_left
 ·
  rw [if_neg c251] at H; replace c251 := Bool.eq_false_iff.mpr c251
  have c251n : (t18 != 0) = true := by rw [bne, c251]; rfl
  have c251p : ¬ t18 = 0 := fun e => by simp [e] at c251
  try simp only [c251, c251n, Bool.not_true, Bool.not_false]
  by_cases c318 : ((Int.tmod t12 t241) == 0) = true
  ·
   rw [if_pos c318] at H
   have c318n : ((Int.tmod t12 t241) != 0) = false := by rw [bne, c318]; rfl
   obtain rfl := Option.some.inj H
   try simp only [c318, c318n, Bool.not_true, Bool.not_false]
   refine wpList_step fun K_ h_ => ?_; go_simp; refine h_ _ _ ?_; clear h_ K_
   refine wpp fun K_ h_ => ?_; go_simp; refine h_ _ _ ?_; clear h_ K_
   refine wpp fun K_ h_ => ?_; go_simp; refine h_ _ _ ?_; clear h_ K_
   refine step_no rfl ?_
   simp only [Act.put, nm1, nm2, nm3, i64_w]
   refine step_no rfl ?_
   simp only [Act.put, nm1, nm2, nm3, i64_w]
   refine step_no rfl ?_
   simp only [Act.put, nm1, nm2, nm3, i64_w]
   refine step_no rfl ?_
   simp only [Act.put, nm1, nm2, nm3, i64_w]
   refine step_no rfl ?_
   simp only [Act.put, nm1, nm2, nm3, i64_w]
   refine step_no rfl ?_
   simp only [Act.put, nm1, nm2, nm3, i64_w]
   refine wpp fun K_ h_ => ?_; go_simp; refine h_ _ _ ?_; clear h_ K_
   refine wpList_nil ?_
   (try simp only [Exit.then, Exit.inBlock, ↓reduceIte, Nat.reduceEqDiff])
   refine hK247 _ _ ?_
   as_aux_lemma =>
   refine wp_cond_true rfl ?_
   refine wp_seq_k (fun K319 hK319 => ?_)
   refine wp_region_lit ?_
   refine wpp fun K_ h_ => ?_; go_simp; refine h_ _ _ ?_; clear h_ K_
   refine wpList_nil ?_
   (try simp only [Exit.then, Exit.inBlock, ↓reduceIte, Nat.reduceEqDiff])
   refine hK319 _ _ ?_
   refine wp_ret ?_
   (try simp only [Exit.then, Exit.inBlock, ↓reduceIte, Nat.reduceEqDiff])
   refine hQf _ _ _ ?_
   exact bodyPost_ret (v := .bool false) (by first | rfl | (simp [results, Try.results4, go_sem]; done) | (simp [results, Try.results4, go_sem]; rfl)) rfl ⟨rfl, (((hm64.out.trans hu71.out).trans hu77.out).trans hu245.out)⟩
  rw [if_neg c318] at H; replace c318 := Bool.eq_false_iff.mpr c318
  have c318n : ((Int.tmod t12 t241) != 0) = true := by rw [bne, c318]; rfl
  have c318p : ¬ (Int.tmod t12 t241) = 0 := fun e => by simp [e] at c318
  replace H := Option.bind_eq_some_iff.mp H
  obtain ⟨t320, A321, H⟩ := H
  replace A321 := Aside0.mk A321
  try dsimp only at H
  try simp only [c318, c318n, Bool.not_true, Bool.not_false]
  refine wpList_step fun K_ h_ => ?_; go_simp; refine h_ _ _ ?_; clear h_ K_
  refine wpp fun K_ h_ => ?_; go_simp; refine h_ _ _ ?_; clear h_ K_
  refine wpp fun K_ h_ => ?_; go_simp; refine h_ _ _ ?_; clear h_ K_
  refine wpList_step fun K_ h_ => ?_; go_simp; refine h_ _ _ ?_; clear h_ K_
  refine wpList_step fun K_ h_ => ?_; go_simp; refine h_ _ _ ?_; clear h_ K_
  refine step_call rfl (by go_simp <;> rfl) (laws_hasInt.calls K P31 q32 t30 t13 t320 w244 ((ht30.up (((((hu44.out.trans hu52.out).trans hu60.out).trans hu71.out).trans hu77.out).trans hu245.out)).rd) A321.out) ?_
  rintro e w322 ⟨rfl, hu⟩
  have hu323 := Aside0.mk hu
  clear hu
  refine ⟨_, rfl, ?_⟩
  simp only [Act.put, nm1, nm2, nm3, i64_w]
  refine wpList_step fun K_ h_ => ?_; go_simp; refine h_ _ _ ?_; clear h_ K_
  refine wpList_step fun K_ h_ => ?_; go_simp; refine h_ _ _ ?_; clear h_ K_
  by_cases c324 : (t320) = true
  ·
   rw [if_pos c324] at H
   subst c324
   obtain rfl := Option.some.inj H
   refine wpList_step fun K_ h_ => ?_; go_simp; refine h_ _ _ ?_; clear h_ K_
   refine wpp fun K_ h_ => ?_; go_simp; refine h_ _ _ ?_; clear h_ K_
   refine wpList_nil ?_
   (try simp only [Exit.then, Exit.inBlock, ↓reduceIte, Nat.reduceEqDiff])
   refine hK247 _ _ ?_
   refine wp_cond_true rfl ?_
   refine wp_seq_k (fun K325 hK325 => ?_)
   refine wp_region_lit ?_
   refine wpp fun K_ h_ => ?_; go_simp; refine h_ _ _ ?_; clear h_ K_
   refine wpList_nil ?_
   (try simp only [Exit.then, Exit.inBlock, ↓reduceIte, Nat.reduceEqDiff])
   refine hK325 _ _ ?_
   refine wp_ret ?_
   (try simp only [Exit.then, Exit.inBlock, ↓reduceIte, Nat.reduceEqDiff])
   refine hQf _ _ _ ?_
   exact bodyPost_ret (v := .bool false) (by first | rfl | (simp [results, Try.results4, go_sem]; done) | (simp [results, Try.results4, go_sem]; rfl)) rfl ⟨rfl, ((((hm64.out.trans hu71.out).trans hu77.out).trans hu245.out).trans hu323.out)⟩
  rw [if_neg c324] at H; replace c324 := Bool.eq_false_iff.mpr c324
  subst c324
  refine wpList_step fun K_ h_ => ?_; go_simp; refine h_ _ _ ?_; clear h_ K_
  refine wpp fun K_ h_ => ?_; go_simp; refine h_ _ _ ?_; clear h_ K_
  refine wpList_nil ?_
  (try simp only [Exit.then, Exit.inBlock, ↓reduceIte, Nat.reduceEqDiff])
  refine hK247 _ _ ?_
  refine wp_cond_false rfl ?_
  refine wp_skip ?_
  (try simp only [Exit.then, Exit.inBlock, ↓reduceIte, Nat.reduceEqDiff])
  refine hK246 _ _ ?_
  refine wp_seq_k (fun K326 hK326 => ?_)
  refine wp_seq_k (fun K327 hK327 => ?_)
  refine wp_region_lit ?_
  refine wpp fun K_ h_ => ?_; go_simp; refine h_ _ _ ?_; clear h_ K_
  refine wpList_nil ?_
  (try simp only [Exit.then, Exit.inBlock, ↓reduceIte, Nat.reduceEqDiff])
  refine hK327 _ _ ?_
  refine wp_block ?_
  have HL332 := Aside0.mk H
  clear H
  go_loopg [20] K (fun kq v20 w' => ∃ (x328 : Int), v20 = .int .i64 x328 ∧ Aside0 (laws_FnSpreadPolynomials.l3 K a0 t11 t12 t13 t18 t46 kq x328 = some (r0)) ∧ Aside0 (kq ≤ K) ∧ Aside0 (Up w322 w') ∧ Aside0 (w322.heap.size ≤ w'.heap.size))
  case atStart => exact ⟨0, (by first | rfl | simp), HL332, ⟨Nat.le_refl _⟩, ⟨(Up.refl _)⟩, ⟨Nat.le_refl _⟩⟩
  case round =>
   rename_i J336 K337 hJ336 hK337
   obtain ⟨x328, rfl, HL335, hk334, hu330, hz331⟩ := hrel
   obtain ⟨w329, rfl⟩ : ∃ wo : World, wo = wr := ⟨_, rfl⟩
   obtain ⟨k333, rfl⟩ | rfl : (∃ k, gk = k + 1) ∨ gk = 0 := by rcases gk with _ | k; exact .inr rfl; exact .inl ⟨k, rfl⟩
   case inr => exact absurd HL335.out (by simp [laws_FnSpreadPolynomials.l3])
   have H := HL335.out
   clear HL335
   rw [laws_FnSpreadPolynomials.l3] at H
   refine wp_seq_k (fun K338 hK338 => ?_)
   refine wp_seq_k (fun K339 hK339 => ?_)
   refine wp_region_lit ?_
   refine wpp fun K_ h_ => ?_; go_simp; refine h_ _ _ ?_; clear h_ K_
   refine wpp fun K_ h_ => ?_; go_simp; refine h_ _ _ ?_; clear h_ K_
   refine wpp fun K_ h_ => ?_; go_simp; refine h_ _ _ ?_; clear h_ K_
   refine wpp fun K_ h_ => ?_; go_simp; refine h_ _ _ ?_; clear h_ K_
   refine wpList_nil ?_
   (try simp only [Exit.then, Exit.inBlock, ↓reduceIte, Nat.reduceEqDiff])
   refine hK339 _ _ ?_
   as_aux_lemma =>
   have hm341 := Aside0.mk (((((hm64.out.trans hu71.out).trans hu77.out).trans hu245.out).trans hu323.out).trans hu330.out)
   by_cases c340 : (decide (x328 < (t46.length : Int))) = true
   ·
    rw [if_pos c340] at H
    replace H := Option.bind_eq_some_iff.mp H
    obtain ⟨t344, A345, H⟩ := H
    replace A345 := Aside0.mk A345
    try dsimp only at H
    replace H := Option.bind_eq_some_iff.mp H
    obtain ⟨⟨t349, t350⟩, A351, H⟩ := H
    replace A351 := Aside0.mk A351
    try dsimp only at H
    try simp only [c340, Bool.not_true, Bool.not_false]
    refine wp_cond_true rfl ?_
    refine wp_skip ?_
    (try simp only [Exit.then, Exit.inBlock, ↓reduceIte, Nat.reduceEqDiff])
    refine hK338 _ _ ?_
    refine wp_seq_k (fun K342 hK342 => ?_)
    refine wp_block ?_
    refine wp_seq_k (fun K343 hK343 => ?_)
    refine wp_region_lit ?_
    refine wpp fun K_ h_ => ?_; go_simp; refine h_ _ _ ?_; clear h_ K_
    refine wpp fun K_ h_ => ?_; go_simp; refine h_ _ _ ?_; clear h_ K_
    refine wpp fun K_ h_ => ?_; go_simp; refine h_ _ _ ?_; clear h_ K_
    refine wpp fun K_ h_ => ?_; go_simp; refine h_ _ _ ?_; clear h_ K_
    refine step_index eI (T := 2) (wanted_none rfl) rfl (by kernel_rfl) (by kernel_rfl) rfl rfl rfl (ht46.up (((((hu60.out.trans hu71.out).trans hu77.out).trans hu245.out).trans hu323.out).trans hu330.out)).rd A345.out ?_
    intro ad346 hat he
    have he347 := Aside0.mk he
    have hat348 := Aside0.mk hat
    clear he hat
    simp only [Act.put, nm1, nm2, nm3, i64_w]
    have cl0 := he347.out 0 _ rfl
    rw [addr_add0] at cl0
    refine wpp fun K_ h_ => ?_; go_simp; refine h_ _ _ ?_; clear h_ K_
    clear cl0
    refine step_call (wanted_none rfl) (by go_simp <;> rfl) (impl_SpreadPolynomial.calls K t11 t12 t344 t349 t350 w329  A351.out) ?_
    rintro e w352 ⟨rfl, hu⟩
    have hu353 := Aside0.mk hu
    clear hu
    refine ⟨_, rfl, ?_⟩
    simp only [Act.put, nm1, nm2, nm3, i64_w]
    refine wpp fun K_ h_ => ?_; go_simp; refine h_ _ _ ?_; clear h_ K_
    refine wpp fun K_ h_ => ?_; go_simp; refine h_ _ _ ?_; clear h_ K_
    refine wpp fun K_ h_ => ?_; go_simp; refine h_ _ _ ?_; clear h_ K_
    refine wpp fun K_ h_ => ?_; go_simp; refine h_ _ _ ?_; clear h_ K_
    refine wpp fun K_ h_ => ?_; go_simp; refine h_ _ _ ?_; clear h_ K_
    refine wpList_nil ?_
    (try simp only [Exit.then, Exit.inBlock, ↓reduceIte, Nat.reduceEqDiff])
    refine hK343 _ _ ?_
    refine wp_seq_k (fun K354 hK354 => ?_)
    refine wp_region_lit ?_
    refine wpp fun K_ h_ => ?_; go_simp; refine h_ _ _ ?_; clear h_ K_
    refine wpp fun K_ h_ => ?_; go_simp; refine h_ _ _ ?_; clear h_ K_
    refine wpp fun K_ h_ => ?_; go_simp; refine h_ _ _ ?_; clear h_ K_
    have hm356 := Aside0.mk (Nat.le_trans ((Nat.le_trans ((Nat.le_trans (hm249.out) hu323.out.size)) hz331.out)) hu353.out.size)
    by_cases c355 : (t350 == 0) = true
    rotate_left
    ·
     rw [if_neg c355] at H; replace c355 := Bool.eq_false_iff.mpr c355
     have c355n : (t350 != 0) = true := by rw [bne, c355]; rfl
     have c355p : ¬ t350 = 0 := fun e => by simp [e] at c355
     obtain rfl := Option.some.inj H
     try simp only [c355, c355n, Bool.not_true, Bool.not_false]
     refine step_no rfl ?_
     simp only [Act.put, nm1, nm2, nm3, i64_w]
     refine step_no rfl ?_
     simp only [Act.put, nm1, nm2, nm3, i64_w]
     refine step_no rfl ?_
     simp only [Act.put, nm1, nm2, nm3, i64_w]
     refine wpp fun K_ h_ => ?_; go_simp; refine h_ _ _ ?_; clear h_ K_
     refine wpList_nil ?_
     (try simp only [Exit.then, Exit.inBlock, ↓reduceIte, Nat.reduceEqDiff])
     refine hK354 _ _ ?_
     refine wp_cond_true rfl ?_
     refine wp_seq_k (fun K360 hK360 => ?_)
     refine wp_region_lit ?_
     refine wpp fun K_ h_ => ?_; go_simp; refine h_ _ _ ?_; clear h_ K_
     refine wpList_nil ?_
     (try simp only [Exit.then, Exit.inBlock, ↓reduceIte, Nat.reduceEqDiff])
     refine hK360 _ _ ?_
     as_aux_lemma =>
     refine wp_ret ?_
     (try simp only [Exit.then, Exit.inBlock, ↓reduceIte, Nat.reduceEqDiff])
     refine hQf _ _ _ ?_
     exact bodyPost_ret (v := .bool false) (by first | rfl | (simp [results, Try.results4, go_sem]; done) | (simp [results, Try.results4, go_sem]; rfl)) rfl ⟨rfl, (hm341.out.trans hu353.out)⟩
    rw [if_pos c355] at H
    have c355n : (t350 != 0) = false := by rw [bne, c355]; rfl
    try simp only [c355, c355n, Bool.not_true, Bool.not_false]
    refine wpList_step fun K_ h_ => ?_; go_simp; refine h_ _ _ ?_; clear h_ K_
    refine wpList_step fun K_ h_ => ?_; go_simp; refine h_ _ _ ?_; clear h_ K_
    refine wpList_step fun K_ h_ => ?_; go_simp; refine h_ _ _ ?_; clear h_ K_
    refine wpp fun K_ h_ => ?_; go_simp; refine h_ _ _ ?_; clear h_ K_
    refine wpList_nil ?_
    (try simp only [Exit.then, Exit.inBlock, ↓reduceIte, Nat.reduceEqDiff])
    refine hK354 _ _ ?_
    by_cases c357 : (t349 == t13) = true
    rotate_left
    ·
     rw [if_neg c357] at H; replace c357 := Bool.eq_false_iff.mpr c357
     have c357n : (t349 != t13) = true := by rw [bne, c357]; rfl
     have c357p : ¬ t349 = t13 := fun e => by simp [e] at c357
     obtain rfl := Option.some.inj H
     try simp only [c357, c357n, Bool.not_true, Bool.not_false]
     refine wp_cond_true rfl ?_
     refine wp_seq_k (fun K359 hK359 => ?_)
     refine wp_region_lit ?_
     refine wpp fun K_ h_ => ?_; go_simp; refine h_ _ _ ?_; clear h_ K_
     refine wpList_nil ?_
     (try simp only [Exit.then, Exit.inBlock, ↓reduceIte, Nat.reduceEqDiff])
     refine hK359 _ _ ?_
     refine wp_ret ?_
     (try simp only [Exit.then, Exit.inBlock, ↓reduceIte, Nat.reduceEqDiff])
     refine hQf _ _ _ ?_
     exact bodyPost_ret (v := .bool false) (by first | rfl | (simp [results, Try.results4, go_sem]; done) | (simp [results, Try.results4, go_sem]; rfl)) rfl ⟨rfl, (hm341.out.trans hu353.out)⟩
    rw [if_pos c357] at H
    have c357n : (t349 != t13) = false := by rw [bne, c357]; rfl
    have HL358 := Aside0.mk H
    clear H
    try simp only [c357, c357n, Bool.not_true, Bool.not_false]
    refine wp_cond_false rfl ?_
    refine wp_skip ?_
    (try simp only [Exit.then, Exit.inBlock, ↓reduceIte, Nat.reduceEqDiff])
    refine hK342 _ _ ?_
    refine wp_region_lit ?_
    refine wpp fun K_ h_ => ?_; go_simp; refine h_ _ _ ?_; clear h_ K_
    refine wpp fun K_ h_ => ?_; go_simp; refine h_ _ _ ?_; clear h_ K_
    refine wpp fun K_ h_ => ?_; go_simp; refine h_ _ _ ?_; clear h_ K_
    refine wpList_nil ?_
    (try simp only [Exit.then, Exit.inBlock, ↓reduceIte, Nat.reduceEqDiff])
    refine hK337 _ _ ?_
    go_roundg k333
    case measure => exact Nat.lt_succ_self _
    case rel => exact ⟨wrap64 (x328 + 1), (by first | rfl | simp), HL358, ⟨by have := hk334.out; omega⟩, ⟨(hu330.out.trans hu353.out)⟩, ⟨(Nat.le_trans ((Nat.le_trans (Nat.le_refl _) hz331.out)) hu353.out.size)⟩⟩
   rw [if_neg c340] at H; replace c340 := Bool.eq_false_iff.mpr c340
   try simp only [c340, Bool.not_true, Bool.not_false]
   refine wp_cond_false rfl ?_
   refine wp_exit ?_
   (try simp only [Exit.then, Exit.inBlock, ↓reduceIte, Nat.reduceEqDiff])
   refine hK326 _ _ ?_
   refine wp_seq_k (fun K361 hK361 => ?_)
   refine wp_region_lit ?_
   refine wpp fun K_ h_ => ?_; go_simp; refine h_ _ _ ?_; clear h_ K_
   refine wpp fun K_ h_ => ?_; go_simp; refine h_ _ _ ?_; clear h_ K_
   refine wpList_nil ?_
   (try simp only [Exit.then, Exit.inBlock, ↓reduceIte, Nat.reduceEqDiff])
   refine hK361 _ _ ?_
   by_cases c362 : (decide (t12 ≤ 300)) = true
   rotate_left
   ·
    rw [if_neg c362] at H; replace c362 := Bool.eq_false_iff.mpr c362
    try simp only [c362, Bool.not_true, Bool.not_false]
    refine wp_cond_false rfl ?_
    refine wp_skip ?_
    (try simp only [Exit.then, Exit.inBlock, ↓reduceIte, Nat.reduceEqDiff])
    exact hK237 _ _ rfl (by kernel_rfl) ⟨H, ((hu245.out.trans hu323.out).trans hu330.out)⟩
   rw [if_pos c362] at H
   replace H := Option.bind_eq_some_iff.mp H
   obtain ⟨⟨t364, t365⟩, A366, H⟩ := H
   replace A366 := Aside0.mk A366
   try dsimp only at H
   replace H := Option.bind_eq_some_iff.mp H
   obtain ⟨⟨t370, t371⟩, A372, H⟩ := H
   replace A372 := Aside0.mk A372
   try dsimp only at H
   try simp only [c362, Bool.not_true, Bool.not_false]
   refine wp_cond_true rfl ?_
   refine wp_seq_k (fun K363 hK363 => ?_)
   refine wp_region_lit ?_
   refine wpp fun K_ h_ => ?_; go_simp; refine h_ _ _ ?_; clear h_ K_
   refine wpp fun K_ h_ => ?_; go_simp; refine h_ _ _ ?_; clear h_ K_
   refine wpp fun K_ h_ => ?_; go_simp; refine h_ _ _ ?_; clear h_ K_
   refine wpp fun K_ h_ => ?_; go_simp; refine h_ _ _ ?_; clear h_ K_
   refine step_call (wanted_none rfl) (by go_simp <;> rfl) (impl_SpreadPolynomial.calls K t11 (wrap64 (3 * t12)) t13 t364 t365 w329  A366.out) ?_
   rintro e w367 ⟨rfl, hu⟩
   have hu368 := Aside0.mk hu
   clear hu
   refine ⟨_, rfl, ?_⟩
   simp only [Act.put, nm1, nm2, nm3, i64_w]
   refine wpp fun K_ h_ => ?_; go_simp; refine h_ _ _ ?_; clear h_ K_
   refine wpp fun K_ h_ => ?_; go_simp; refine h_ _ _ ?_; clear h_ K_
   refine wpp fun K_ h_ => ?_; go_simp; refine h_ _ _ ?_; clear h_ K_
   refine wpp fun K_ h_ => ?_; go_simp; refine h_ _ _ ?_; clear h_ K_
   refine wpp fun K_ h_ => ?_; go_simp; refine h_ _ _ ?_; clear h_ K_
   refine wpList_nil ?_
   (try simp only [Exit.then, Exit.inBlock, ↓reduceIte, Nat.reduceEqDiff])
   refine hK363 _ _ ?_
   as_aux_lemma =>
   refine wp_seq_k (fun K369 hK369 => ?_)
   refine wp_region_lit ?_
   refine wpp fun K_ h_ => ?_; go_simp; refine h_ _ _ ?_; clear h_ K_
   refine wpp fun K_ h_ => ?_; go_simp; refine h_ _ _ ?_; clear h_ K_
   refine step_call (wanted_none rfl) (by go_simp <;> rfl) (impl_SpreadPolynomial.calls K t11 3 t18 t370 t371 w367  A372.out) ?_
   rintro e w373 ⟨rfl, hu⟩
   have hu374 := Aside0.mk hu
   clear hu
   refine ⟨_, rfl, ?_⟩
   simp only [Act.put, nm1, nm2, nm3, i64_w]
   refine wpp fun K_ h_ => ?_; go_simp; refine h_ _ _ ?_; clear h_ K_
   refine wpp fun K_ h_ => ?_; go_simp; refine h_ _ _ ?_; clear h_ K_
   refine wpp fun K_ h_ => ?_; go_simp; refine h_ _ _ ?_; clear h_ K_
   refine wpp fun K_ h_ => ?_; go_simp; refine h_ _ _ ?_; clear h_ K_
   refine wpp fun K_ h_ => ?_; go_simp; refine h_ _ _ ?_; clear h_ K_
   refine wpList_nil ?_
   (try simp only [Exit.then, Exit.inBlock, ↓reduceIte, Nat.reduceEqDiff])
   refine hK369 _ _ ?_
   refine wp_seq_k (fun K375 hK375 => ?_)
   refine wp_region_lit ?_
   refine wpp fun K_ h_ => ?_; go_simp; refine h_ _ _ ?_; clear h_ K_
   refine wpp fun K_ h_ => ?_; go_simp; refine h_ _ _ ?_; clear h_ K_
   refine wpp fun K_ h_ => ?_; go_simp; refine h_ _ _ ?_; clear h_ K_
   have hm377 := Aside0.mk (Nat.le_trans ((Nat.le_trans ((Nat.le_trans ((Nat.le_trans (hm249.out) hu323.out.size)) hz331.out)) hu368.out.size)) hu374.out.size)
   have hm378 := Aside0.mk (Nat.le_trans ((Nat.le_trans ((Nat.le_trans (Nat.le_refl _) hz331.out)) hu368.out.size)) hu374.out.size)
   by_cases c376 : (t365 == 0) = true
   rotate_left
   ·
    rw [if_neg c376] at H; replace c376 := Bool.eq_false_iff.mpr c376
    have c376n : (t365 != 0) = true := by rw [bne, c376]; rfl
    have c376p : ¬ t365 = 0 := fun e => by simp [e] at c376
    obtain rfl := Option.some.inj H
    try simp only [c376, c376n, Bool.not_true, Bool.not_false]
    refine step_no rfl ?_
    simp only [Act.put, nm1, nm2, nm3, i64_w]
    refine step_no rfl ?_
    simp only [Act.put, nm1, nm2, nm3, i64_w]
    refine wpp fun K_ h_ => ?_; go_simp; refine h_ _ _ ?_; clear h_ K_
    refine wpp fun K_ h_ => ?_; go_simp; refine h_ _ _ ?_; clear h_ K_
    refine step_no rfl ?_
    simp only [Act.put, nm1, nm2, nm3, i64_w]
    refine step_no rfl ?_
    simp only [Act.put, nm1, nm2, nm3, i64_w]
    refine step_no rfl ?_
    simp only [Act.put, nm1, nm2, nm3, i64_w]
    refine wpp fun K_ h_ => ?_; go_simp; refine h_ _ _ ?_; clear h_ K_
    refine wpList_nil ?_
    (try simp only [Exit.then, Exit.inBlock, ↓reduceIte, Nat.reduceEqDiff])
    refine hK375 _ _ ?_
    refine wp_cond_true rfl ?_
    refine wp_seq_k (fun K383 hK383 => ?_)
    refine wp_region_lit ?_
    refine wpp fun K_ h_ => ?_; go_simp; refine h_ _ _ ?_; clear h_ K_
    refine wpList_nil ?_
    (try simp only [Exit.then, Exit.inBlock, ↓reduceIte, Nat.reduceEqDiff])
    refine hK383 _ _ ?_
    refine wp_ret ?_
    (try simp only [Exit.then, Exit.inBlock, ↓reduceIte, Nat.reduceEqDiff])
    refine hQf _ _ _ ?_
    exact bodyPost_ret (v := .bool false) (by first | rfl | (simp [results, Try.results4, go_sem]; done) | (simp [results, Try.results4, go_sem]; rfl)) rfl ⟨rfl, ((hm341.out.trans hu368.out).trans hu374.out)⟩
   rw [if_pos c376] at H
   have c376n : (t365 != 0) = false := by rw [bne, c376]; rfl
   try simp only [c376, c376n, Bool.not_true, Bool.not_false]
   refine wpList_step fun K_ h_ => ?_; go_simp; refine h_ _ _ ?_; clear h_ K_
   refine wpList_step fun K_ h_ => ?_; go_simp; refine h_ _ _ ?_; clear h_ K_
   refine wpp fun K_ h_ => ?_; go_simp; refine h_ _ _ ?_; clear h_ K_
   refine wpp fun K_ h_ => ?_; go_simp; refine h_ _ _ ?_; clear h_ K_
   by_cases c379 : (t371 == 0) = true
   rotate_left
   ·
    rw [if_neg c379] at H; replace c379 := Bool.eq_false_iff.mpr c379
    have c379n : (t371 != 0) = true := by rw [bne, c379]; rfl
    have c379p : ¬ t371 = 0 := fun e => by simp [e] at c379
    obtain rfl := Option.some.inj H
    try simp only [c379, c379n, Bool.not_true, Bool.not_false]
    refine step_no rfl ?_
    simp only [Act.put, nm1, nm2, nm3, i64_w]
    refine step_no rfl ?_
    simp only [Act.put, nm1, nm2, nm3, i64_w]
    refine step_no rfl ?_
    simp only [Act.put, nm1, nm2, nm3, i64_w]
    refine wpp fun K_ h_ => ?_; go_simp; refine h_ _ _ ?_; clear h_ K_
    refine wpList_nil ?_
    (try simp only [Exit.then, Exit.inBlock, ↓reduceIte, Nat.reduceEqDiff])
    refine hK375 _ _ ?_
    as_aux_lemma =>
    refine wp_cond_true rfl ?_
    refine wp_seq_k (fun K382 hK382 => ?_)
    refine wp_region_lit ?_
    refine wpp fun K_ h_ => ?_; go_simp; refine h_ _ _ ?_; clear h_ K_
    refine wpList_nil ?_
    (try simp only [Exit.then, Exit.inBlock, ↓reduceIte, Nat.reduceEqDiff])
    refine hK382 _ _ ?_
    refine wp_ret ?_
    (try simp only [Exit.then, Exit.inBlock, ↓reduceIte, Nat.reduceEqDiff])
    refine hQf _ _ _ ?_
    exact bodyPost_ret (v := .bool false) (by first | rfl | (simp [results, Try.results4, go_sem]; done) | (simp [results, Try.results4, go_sem]; rfl)) rfl ⟨rfl, ((hm341.out.trans hu368.out).trans hu374.out)⟩
   rw [if_pos c379] at H
   have c379n : (t371 != 0) = false := by rw [bne, c379]; rfl
   try simp only [c379, c379n, Bool.not_true, Bool.not_false]
   refine wpList_step fun K_ h_ => ?_; go_simp; refine h_ _ _ ?_; clear h_ K_
   refine wpList_step fun K_ h_ => ?_; go_simp; refine h_ _ _ ?_; clear h_ K_
   refine wpList_step fun K_ h_ => ?_; go_simp; refine h_ _ _ ?_; clear h_ K_
   refine wpp fun K_ h_ => ?_; go_simp; refine h_ _ _ ?_; clear h_ K_
   refine wpList_nil ?_
   (try simp only [Exit.then, Exit.inBlock, ↓reduceIte, Nat.reduceEqDiff])
   refine hK375 _ _ ?_
   by_cases c380 : (t364 == t370) = true
   ·
    rw [if_pos c380] at H
    have c380n : (t364 != t370) = false := by rw [bne, c380]; rfl
    try simp only [c380, c380n, Bool.not_true, Bool.not_false]
    refine wp_cond_false rfl ?_
    refine wp_skip ?_
    (try simp only [Exit.then, Exit.inBlock, ↓reduceIte, Nat.reduceEqDiff])
    exact hK237 _ _ rfl (by kernel_rfl) ⟨H, ((((hu245.out.trans hu323.out).trans hu330.out).trans hu368.out).trans hu374.out)⟩
   rw [if_neg c380] at H; replace c380 := Bool.eq_false_iff.mpr c380
   have c380n : (t364 != t370) = true := by rw [bne, c380]; rfl
   have c380p : ¬ t364 = t370 := fun e => by simp [e] at c380
   obtain rfl := Option.some.inj H
   try simp only [c380, c380n, Bool.not_true, Bool.not_false]
   refine wp_cond_true rfl ?_
   refine wp_seq_k (fun K381 hK381 => ?_)
   refine wp_region_lit ?_
   refine wpp fun K_ h_ => ?_; go_simp; refine h_ _ _ ?_; clear h_ K_
   refine wpList_nil ?_
   (try simp only [Exit.then, Exit.inBlock, ↓reduceIte, Nat.reduceEqDiff])
   refine hK381 _ _ ?_
   refine wp_ret ?_
   (try simp only [Exit.then, Exit.inBlock, ↓reduceIte, Nat.reduceEqDiff])
   refine hQf _ _ _ ?_
   exact bodyPost_ret (v := .bool false) (by first | rfl | (simp [results, Try.results4, go_sem]; done) | (simp [results, Try.results4, go_sem]; rfl)) rfl ⟨rfl, ((hm341.out.trans hu368.out).trans hu374.out)⟩
 rw [if_pos c251] at H
 have c251n : (t18 != 0) = false := by rw [bne, c251]; rfl
 try simp only [c251, c251n, Bool.not_true, Bool.not_false]
 by_cases c252 : ((Int.tmod t12 t241) == 0) = true
 rotate_left
 ·
  rw [if_neg c252] at H; replace c252 := Bool.eq_false_iff.mpr c252
  have c252n : ((Int.tmod t12 t241) != 0) = true := by rw [bne, c252]; rfl
  have c252p : ¬ (Int.tmod t12 t241) = 0 := fun e => by simp [e] at c252
  obtain rfl := Option.some.inj H
  try simp only [c252, c252n, Bool.not_true, Bool.not_false]
  refine wpList_step fun K_ h_ => ?_; go_simp; refine h_ _ _ ?_; clear h_ K_
  refine wpp fun K_ h_ => ?_; go_simp; refine h_ _ _ ?_; clear h_ K_
  refine wpp fun K_ h_ => ?_; go_simp; refine h_ _ _ ?_; clear h_ K_
  refine step_no rfl ?_
  simp only [Act.put, nm1, nm2, nm3, i64_w]
  refine step_no rfl ?_
  simp only [Act.put, nm1, nm2, nm3, i64_w]
  refine step_no rfl ?_
  simp only [Act.put, nm1, nm2, nm3, i64_w]
  refine step_no rfl ?_
  simp only [Act.put, nm1, nm2, nm3, i64_w]
  refine step_no rfl ?_
  simp only [Act.put, nm1, nm2, nm3, i64_w]
  refine step_no rfl ?_
  simp only [Act.put, nm1, nm2, nm3, i64_w]
  refine wpp fun K_ h_ => ?_; go_simp; refine h_ _ _ ?_; clear h_ K_
  refine wpList_nil ?_
  (try simp only [Exit.then, Exit.inBlock, ↓reduceIte, Nat.reduceEqDiff])
  refine hK247 _ _ ?_
  refine wp_cond_true rfl ?_
  refine wp_seq_k (fun K317 hK317 => ?_)
  refine wp_region_lit ?_
  refine wpp fun K_ h_ => ?_; go_simp; refine h_ _ _ ?_; clear h_ K_
  refine wpList_nil ?_
  (try simp only [Exit.then, Exit.inBlock, ↓reduceIte, Nat.reduceEqDiff])
  refine hK317 _ _ ?_
  as_aux_lemma =>
  refine wp_ret ?_
  (try simp only [Exit.then, Exit.inBlock, ↓reduceIte, Nat.reduceEqDiff])
  refine hQf _ _ _ ?_
  exact bodyPost_ret (v := .bool false) (by first | rfl | (simp [results, Try.results4, go_sem]; done) | (simp [results, Try.results4, go_sem]; rfl)) rfl ⟨rfl, (((hm64.out.trans hu71.out).trans hu77.out).trans hu245.out)⟩
 rw [if_pos c252] at H
 have c252n : ((Int.tmod t12 t241) != 0) = false := by rw [bne, c252]; rfl
 replace H := Option.bind_eq_some_iff.mp H
 obtain ⟨t253, A254, H⟩ := H
 replace A254 := Aside0.mk A254
 try dsimp only at H
 try simp only [c252, c252n, Bool.not_true, Bool.not_false]
 refine wpList_step fun K_ h_ => ?_; go_simp; refine h_ _ _ ?_; clear h_ K_
 refine wpp fun K_ h_ => ?_; go_simp; refine h_ _ _ ?_; clear h_ K_
 refine wpp fun K_ h_ => ?_; go_simp; refine h_ _ _ ?_; clear h_ K_
 refine wpList_step fun K_ h_ => ?_; go_simp; refine h_ _ _ ?_; clear h_ K_
 refine wpList_step fun K_ h_ => ?_; go_simp; refine h_ _ _ ?_; clear h_ K_
 refine step_call rfl (by go_simp <;> rfl) (laws_hasInt.calls K P31 q32 t30 t13 t253 w244 ((ht30.up (((((hu44.out.trans hu52.out).trans hu60.out).trans hu71.out).trans hu77.out).trans hu245.out)).rd) A254.out) ?_
 rintro e w255 ⟨rfl, hu⟩
 have hu256 := Aside0.mk hu
 clear hu
 refine ⟨_, rfl, ?_⟩
 simp only [Act.put, nm1, nm2, nm3, i64_w]
 refine wpList_step fun K_ h_ => ?_; go_simp; refine h_ _ _ ?_; clear h_ K_
 refine wpList_step fun K_ h_ => ?_; go_simp; refine h_ _ _ ?_; clear h_ K_
 by_cases c257 : (t253) = true
 rotate_left
 ·
  rw [if_neg c257] at H; replace c257 := Bool.eq_false_iff.mpr c257
  subst c257
  obtain rfl := Option.some.inj H
  refine wpList_step fun K_ h_ => ?_; go_simp; refine h_ _ _ ?_; clear h_ K_
  refine wpp fun K_ h_ => ?_; go_simp; refine h_ _ _ ?_; clear h_ K_
  refine wpList_nil ?_
  (try simp only [Exit.then, Exit.inBlock, ↓reduceIte, Nat.reduceEqDiff])
  refine hK247 _ _ ?_
  refine wp_cond_true rfl ?_
  refine wp_seq_k (fun K316 hK316 => ?_)
  refine wp_region_lit ?_
  refine wpp fun K_ h_ => ?_; go_simp; refine h_ _ _ ?_; clear h_ K_
  refine wpList_nil ?_
  (try simp only [Exit.then, Exit.inBlock, ↓reduceIte, Nat.reduceEqDiff])
  refine hK316 _ _ ?_
  refine wp_ret ?_
  (try simp only [Exit.then, Exit.inBlock, ↓reduceIte, Nat.reduceEqDiff])
  refine hQf _ _ _ ?_
  exact bodyPost_ret (v := .bool false) (by first | rfl | (simp [results, Try.results4, go_sem]; done) | (simp [results, Try.results4, go_sem]; rfl)) rfl ⟨rfl, ((((hm64.out.trans hu71.out).trans hu77.out).trans hu245.out).trans hu256.out)⟩
 rw [if_pos c257] at H
 subst c257
 refine wpList_step fun K_ h_ => ?_; go_simp; refine h_ _ _ ?_; clear h_ K_
 refine wpp fun K_ h_ => ?_; go_simp; refine h_ _ _ ?_; clear h_ K_
 refine wpList_nil ?_
 (try simp only [Exit.then, Exit.inBlock, ↓reduceIte, Nat.reduceEqDiff])
 refine hK247 _ _ ?_
 refine wp_cond_false rfl ?_
 refine wp_skip ?_
 (try simp only [Exit.then, Exit.inBlock, ↓reduceIte, Nat.reduceEqDiff])
 refine hK246 _ _ ?_
 refine wp_seq_k (fun K258 hK258 => ?_)
 refine wp_seq_k (fun K259 hK259 => ?_)
 refine wp_region_lit ?_
 refine wpp fun K_ h_ => ?_; go_simp; refine h_ _ _ ?_; clear h_ K_
 refine wpList_nil ?_
 (try simp only [Exit.then, Exit.inBlock, ↓reduceIte, Nat.reduceEqDiff])
 refine hK259 _ _ ?_
 refine wp_block ?_
 have HL264 := Aside0.mk H
 clear H
 go_loopg [20] K (fun kq v20 w' => ∃ (x260 : Int), v20 = .int .i64 x260 ∧ Aside0 (laws_FnSpreadPolynomials.l2 K a0 t11 t12 t13 t18 t46 kq x260 = some (r0)) ∧ Aside0 (kq ≤ K) ∧ Aside0 (Up w255 w') ∧ Aside0 (w255.heap.size ≤ w'.heap.size))
 case atStart => exact ⟨0, (by first | rfl | simp), HL264, ⟨Nat.le_refl _⟩, ⟨(Up.refl _)⟩, ⟨Nat.le_refl _⟩⟩
 case round =>
  rename_i J268 K269 hJ268 hK269
  obtain ⟨x260, rfl, HL267, hk266, hu262, hz263⟩ := hrel
  obtain ⟨w261, rfl⟩ : ∃ wo : World, wo = wr := ⟨_, rfl⟩
  obtain ⟨k265, rfl⟩ | rfl : (∃ k, gk = k + 1) ∨ gk = 0 := by rcases gk with _ | k; exact .inr rfl; exact .inl ⟨k, rfl⟩
  case inr => exact absurd HL267.out (by simp [laws_FnSpreadPolynomials.l2])
  have H := HL267.out
  clear HL267
  rw [laws_FnSpreadPolynomials.l2] at H
  refine wp_seq_k (fun K270 hK270 => ?_)
  refine wp_seq_k (fun K271 hK271 => ?_)
  refine wp_region_lit ?_
  refine wpp fun K_ h_ => ?_; go_simp; refine h_ _ _ ?_; clear h_ K_
  refine wpp fun K_ h_ => ?_; go_simp; refine h_ _ _ ?_; clear h_ K_
  refine wpp fun K_ h_ => ?_; go_simp; refine h_ _ _ ?_; clear h_ K_
  refine wpp fun K_ h_ => ?_; go_simp; refine h_ _ _ ?_; clear h_ K_
  refine wpList_nil ?_
  (try simp only [Exit.then, Exit.inBlock, ↓reduceIte, Nat.reduceEqDiff])
  refine hK271 _ _ ?_
  as_aux_lemma =>
  have hm273 := Aside0.mk (((((hm64.out.trans hu71.out).trans hu77.out).trans hu245.out).trans hu256.out).trans hu262.out)
  by_cases c272 : (decide (x260 < (t46.length : Int))) = true
  ·
   rw [if_pos c272] at H
   replace H := Option.bind_eq_some_iff.mp H
   obtain ⟨t276, A277, H⟩ := H
   replace A277 := Aside0.mk A277
   try dsimp only at H
   replace H := Option.bind_eq_some_iff.mp H
   obtain ⟨⟨t281, t282⟩, A283, H⟩ := H
   replace A283 := Aside0.mk A283
   try dsimp only at H
   try simp only [c272, Bool.not_true, Bool.not_false]
   refine wp_cond_true rfl ?_
   refine wp_skip ?_
   (try simp only [Exit.then, Exit.inBlock, ↓reduceIte, Nat.reduceEqDiff])
   refine hK270 _ _ ?_
   refine wp_seq_k (fun K274 hK274 => ?_)
   refine wp_block ?_
   refine wp_seq_k (fun K275 hK275 => ?_)
   refine wp_region_lit ?_
   refine wpp fun K_ h_ => ?_; go_simp; refine h_ _ _ ?_; clear h_ K_
   refine wpp fun K_ h_ => ?_; go_simp; refine h_ _ _ ?_; clear h_ K_
   refine wpp fun K_ h_ => ?_; go_simp; refine h_ _ _ ?_; clear h_ K_
   refine wpp fun K_ h_ => ?_; go_simp; refine h_ _ _ ?_; clear h_ K_
   refine step_index eI (T := 2) (wanted_none rfl) rfl (by kernel_rfl) (by kernel_rfl) rfl rfl rfl (ht46.up (((((hu60.out.trans hu71.out).trans hu77.out).trans hu245.out).trans hu256.out).trans hu262.out)).rd A277.out ?_
   intro ad278 hat he
   have he279 := Aside0.mk he
   have hat280 := Aside0.mk hat
   clear he hat
   simp only [Act.put, nm1, nm2, nm3, i64_w]
   have cl0 := he279.out 0 _ rfl
   rw [addr_add0] at cl0
   refine wpp fun K_ h_ => ?_; go_simp; refine h_ _ _ ?_; clear h_ K_
   clear cl0
   refine step_call (wanted_none rfl) (by go_simp <;> rfl) (impl_SpreadPolynomial.calls K t11 t12 t276 t281 t282 w261  A283.out) ?_
   rintro e w284 ⟨rfl, hu⟩
   have hu285 := Aside0.mk hu
   clear hu
   refine ⟨_, rfl, ?_⟩
   simp only [Act.put, nm1, nm2, nm3, i64_w]
   refine wpp fun K_ h_ => ?_; go_simp; refine h_ _ _ ?_; clear h_ K_
   refine wpp fun K_ h_ => ?_; go_simp; refine h_ _ _ ?_; clear h_ K_
   refine wpp fun K_ h_ => ?_; go_simp; refine h_ _ _ ?_; clear h_ K_
   refine wpp fun K_ h_ => ?_; go_simp; refine h_ _ _ ?_; clear h_ K_
   refine wpp fun K_ h_ => ?_; go_simp; refine h_ _ _ ?_; clear h_ K_
   refine wpList_nil ?_
   (try simp only [Exit.then, Exit.inBlock, ↓reduceIte, Nat.reduceEqDiff])
   refine hK275 _ _ ?_
   refine wp_seq_k (fun K286 hK286 => ?_)
   refine wp_region_lit ?_
   refine wpp fun K_ h_ => ?_; go_simp; refine h_ _ _ ?_; clear h_ K_
   refine wpp fun K_ h_ => ?_; go_simp; refine h_ _ _ ?_; clear h_ K_
   refine wpp fun K_ h_ => ?_; go_simp; refine h_ _ _ ?_; clear h_ K_
   have hm288 := Aside0.mk (Nat.le_trans ((Nat.le_trans ((Nat.le_trans (hm249.out) hu256.out.size)) hz263.out)) hu285.out.size)
   by_cases c287 : (t282 == 0) = true
   rotate_left
   ·
    rw [if_neg c287] at H; replace c287 := Bool.eq_false_iff.mpr c287
    have c287n : (t282 != 0) = true := by rw [bne, c287]; rfl
    have c287p : ¬ t282 = 0 := fun e => by simp [e] at c287
    obtain rfl := Option.some.inj H
    try simp only [c287, c287n, Bool.not_true, Bool.not_false]
    refine step_no rfl ?_
    simp only [Act.put, nm1, nm2, nm3, i64_w]
    refine step_no rfl ?_
    simp only [Act.put, nm1, nm2, nm3, i64_w]
    refine step_no rfl ?_
    simp only [Act.put, nm1, nm2, nm3, i64_w]
    refine wpp fun K_ h_ => ?_; go_simp; refine h_ _ _ ?_; clear h_ K_
    refine wpList_nil ?_
    (try simp only [Exit.then, Exit.inBlock, ↓reduceIte, Nat.reduceEqDiff])
    refine hK286 _ _ ?_
    refine wp_cond_true rfl ?_
    refine wp_seq_k (fun K292 hK292 => ?_)
    refine wp_region_lit ?_
    refine wpp fun K_ h_ => ?_; go_simp; refine h_ _ _ ?_; clear h_ K_
    refine wpList_nil ?_
    (try simp only [Exit.then, Exit.inBlock, ↓reduceIte, Nat.reduceEqDiff])
    refine hK292 _ _ ?_
    as_aux_lemma =>
    refine wp_ret ?_
    (try simp only [Exit.then, Exit.inBlock, ↓reduceIte, Nat.reduceEqDiff])
    refine hQf _ _ _ ?_
    exact bodyPost_ret (v := .bool false) (by first | rfl | (simp [results, Try.results4, go_sem]; done) | (simp [results, Try.results4, go_sem]; rfl)) rfl ⟨rfl, (hm273.out.trans hu285.out)⟩
   rw [if_pos c287] at H
   have c287n : (t282 != 0) = false := by rw [bne, c287]; rfl
   try simp only [c287, c287n, Bool.not_true, Bool.not_false]
   refine wpList_step fun K_ h_ => ?_; go_simp; refine h_ _ _ ?_; clear h_ K_
   refine wpList_step fun K_ h_ => ?_; go_simp; refine h_ _ _ ?_; clear h_ K_
   refine wpList_step fun K_ h_ => ?_; go_simp; refine h_ _ _ ?_; clear h_ K_
   refine wpp fun K_ h_ => ?_; go_simp; refine h_ _ _ ?_; clear h_ K_
   refine wpList_nil ?_
   (try simp only [Exit.then, Exit.inBlock, ↓reduceIte, Nat.reduceEqDiff])
   refine hK286 _ _ ?_
   by_cases c289 : (t281 == t13) = true
   rotate_left
   ·
    rw [if_neg c289] at H; replace c289 := Bool.eq_false_iff.mpr c289
    have c289n : (t281 != t13) = true := by rw [bne, c289]; rfl
    have c289p : ¬ t281 = t13 := fun e => by simp [e] at c289
    obtain rfl := Option.some.inj H
    try simp only [c289, c289n, Bool.not_true, Bool.not_false]
    refine wp_cond_true rfl ?_
    refine wp_seq_k (fun K291 hK291 => ?_)
    refine wp_region_lit ?_
    refine wpp fun K_ h_ => ?_; go_simp; refine h_ _ _ ?_; clear h_ K_
    refine wpList_nil ?_
    (try simp only [Exit.then, Exit.inBlock, ↓reduceIte, Nat.reduceEqDiff])
    refine hK291 _ _ ?_
    refine wp_ret ?_
    (try simp only [Exit.then, Exit.inBlock, ↓reduceIte, Nat.reduceEqDiff])
    refine hQf _ _ _ ?_
    exact bodyPost_ret (v := .bool false) (by first | rfl | (simp [results, Try.results4, go_sem]; done) | (simp [results, Try.results4, go_sem]; rfl)) rfl ⟨rfl, (hm273.out.trans hu285.out)⟩
   rw [if_pos c289] at H
   have c289n : (t281 != t13) = false := by rw [bne, c289]; rfl
   have HL290 := Aside0.mk H
   clear H
   try simp only [c289, c289n, Bool.not_true, Bool.not_false]
   refine wp_cond_false rfl ?_
   refine wp_skip ?_
   (try simp only [Exit.then, Exit.inBlock, ↓reduceIte, Nat.reduceEqDiff])
   refine hK274 _ _ ?_
   refine wp_region_lit ?_
   refine wpp fun K_ h_ => ?_; go_simp; refine h_ _ _ ?_; clear h_ K_
   refine wpp fun K_ h_ => ?_; go_simp; refine h_ _ _ ?_; clear h_ K_
   refine wpp fun K_ h_ => ?_; go_simp; refine h_ _ _ ?_; clear h_ K_
   refine wpList_nil ?_
   (try simp only [Exit.then, Exit.inBlock, ↓reduceIte, Nat.reduceEqDiff])
   refine hK269 _ _ ?_
   go_roundg k265
   case measure => exact Nat.lt_succ_self _
   case rel => exact ⟨wrap64 (x260 + 1), (by first | rfl | simp), HL290, ⟨by have := hk266.out; omega⟩, ⟨(hu262.out.trans hu285.out)⟩, ⟨(Nat.le_trans ((Nat.le_trans (Nat.le_refl _) hz263.out)) hu285.out.size)⟩⟩
  rw [if_neg c272] at H; replace c272 := Bool.eq_false_iff.mpr c272
  try simp only [c272, Bool.not_true, Bool.not_false]
  refine wp_cond_false rfl ?_
  refine wp_exit ?_
  (try simp only [Exit.then, Exit.inBlock, ↓reduceIte, Nat.reduceEqDiff])
  refine hK258 _ _ ?_
  refine wp_seq_k (fun K293 hK293 => ?_)
  refine wp_region_lit ?_
  refine wpp fun K_ h_ => ?_; go_simp; refine h_ _ _ ?_; clear h_ K_
  refine wpp fun K_ h_ => ?_; go_simp; refine h_ _ _ ?_; clear h_ K_
  refine wpList_nil ?_
  (try simp only [Exit.then, Exit.inBlock, ↓reduceIte, Nat.reduceEqDiff])
  refine hK293 _ _ ?_
  by_cases c294 : (decide (t12 ≤ 300)) = true
  rotate_left
  ·
   rw [if_neg c294] at H; replace c294 := Bool.eq_false_iff.mpr c294
   try simp only [c294, Bool.not_true, Bool.not_false]
   refine wp_cond_false rfl ?_
   refine wp_skip ?_
   (try simp only [Exit.then, Exit.inBlock, ↓reduceIte, Nat.reduceEqDiff])
   exact hK237 _ _ rfl (by kernel_rfl) ⟨H, ((hu245.out.trans hu256.out).trans hu262.out)⟩
  rw [if_pos c294] at H
  replace H := Option.bind_eq_some_iff.mp H
  obtain ⟨⟨t296, t297⟩, A298, H⟩ := H
  replace A298 := Aside0.mk A298
  try dsimp only at H
  replace H := Option.bind_eq_some_iff.mp H
  obtain ⟨⟨t302, t303⟩, A304, H⟩ := H
  replace A304 := Aside0.mk A304
  try dsimp only at H
  try simp only [c294, Bool.not_true, Bool.not_false]
  refine wp_cond_true rfl ?_
  refine wp_seq_k (fun K295 hK295 => ?_)
  refine wp_region_lit ?_
  refine wpp fun K_ h_ => ?_; go_simp; refine h_ _ _ ?_; clear h_ K_
  refine wpp fun K_ h_ => ?_; go_simp; refine h_ _ _ ?_; clear h_ K_
  refine wpp fun K_ h_ => ?_; go_simp; refine h_ _ _ ?_; clear h_ K_
  refine wpp fun K_ h_ => ?_; go_simp; refine h_ _ _ ?_; clear h_ K_
  refine step_call (wanted_none rfl) (by go_simp <;> rfl) (impl_SpreadPolynomial.calls K t11 (wrap64 (3 * t12)) t13 t296 t297 w261  A298.out) ?_
  rintro e w299 ⟨rfl, hu⟩
  have hu300 := Aside0.mk hu
  clear hu
  refine ⟨_, rfl, ?_⟩
  simp only [Act.put, nm1, nm2, nm3, i64_w]
  refine wpp fun K_ h_ => ?_; go_simp; refine h_ _ _ ?_; clear h_ K_
  refine wpp fun K_ h_ => ?_; go_simp; refine h_ _ _ ?_; clear h_ K_
  refine wpp fun K_ h_ => ?_; go_simp; refine h_ _ _ ?_; clear h_ K_
  refine wpp fun K_ h_ => ?_; go_simp; refine h_ _ _ ?_; clear h_ K_
  refine wpp fun K_ h_ => ?_; go_simp; refine h_ _ _ ?_; clear h_ K_
  refine wpList_nil ?_
  (try simp only [Exit.then, Exit.inBlock, ↓reduceIte, Nat.reduceEqDiff])
  refine hK295 _ _ ?_
  as_aux_lemma =>
  refine wp_seq_k (fun K301 hK301 => ?_)
  refine wp_region_lit ?_
  refine wpp fun K_ h_ => ?_; go_simp; refine h_ _ _ ?_; clear h_ K_
  refine wpp fun K_ h_ => ?_; go_simp; refine h_ _ _ ?_; clear h_ K_
  refine step_call (wanted_none rfl) (by go_simp <;> rfl) (impl_SpreadPolynomial.calls K t11 3 t18 t302 t303 w299  A304.out) ?_
  rintro e w305 ⟨rfl, hu⟩
  have hu306 := Aside0.mk hu
  clear hu
  refine ⟨_, rfl, ?_⟩
  simp only [Act.put, nm1, nm2, nm3, i64_w]
  refine wpp fun K_ h_ => ?_; go_simp; refine h_ _ _ ?_; clear h_ K_
  refine wpp fun K_ h_ => ?_; go_simp; refine h_ _ _ ?_; clear h_ K_
  refine wpp fun K_ h_ => ?_; go_simp; refine h_ _ _ ?_; clear h_ K_
  refine wpp fun K_ h_ => ?_; go_simp; refine h_ _ _ ?_; clear h_ K_
  refine wpp fun K_ h_ => ?_; go_simp; refine h_ _ _ ?_; clear h_ K_
  refine wpList_nil ?_
  (try simp only [Exit.then, Exit.inBlock, ↓reduceIte, Nat.reduceEqDiff])
  refine hK301 _ _ ?_
  refine wp_seq_k (fun K307 hK307 => ?_)
  refine wp_region_lit ?_
  refine wpp fun K_ h_ => ?_; go_simp; refine h_ _ _ ?_; clear h_ K_
  refine wpp fun K_ h_ => ?_; go_simp; refine h_ _ _ ?_; clear h_ K_
  refine wpp fun K_ h_ => ?_; go_simp; refine h_ _ _ ?_; clear h_ K_
  have hm309 := Aside0.mk (Nat.le_trans ((Nat.le_trans ((Nat.le_trans ((Nat.le_trans (hm249.out) hu256.out.size)) hz263.out)) hu300.out.size)) hu306.out.size)
  have hm310 := Aside0.mk (Nat.le_trans ((Nat.le_trans ((Nat.le_trans (Nat.le_refl _) hz263.out)) hu300.out.size)) hu306.out.size)
  by_cases c308 : (t297 == 0) = true
  rotate_left
  ·
   rw [if_neg c308] at H; replace c308 := Bool.eq_false_iff.mpr c308
   have c308n : (t297 != 0) = true := by rw [bne, c308]; rfl
   have c308p : ¬ t297 = 0 := fun e => by simp [e] at c308
   obtain rfl := Option.some.inj H
   try simp only [c308, c308n, Bool.not_true, Bool.not_false]
   refine step_no rfl ?_
   simp only [Act.put, nm1, nm2, nm3, i64_w]
   refine step_no rfl ?_
   simp only [Act.put, nm1, nm2, nm3, i64_w]
   refine wpp fun K_ h_ => ?_; go_simp; refine h_ _ _ ?_; clear h_ K_
   refine wpp fun K_ h_ => ?_; go_simp; refine h_ _ _ ?_; clear h_ K_
   refine step_no rfl ?_
   simp only [Act.put, nm1, nm2, nm3, i64_w]
   refine step_no rfl ?_
   simp only [Act.put, nm1, nm2, nm3, i64_w]
   refine step_no rfl ?_
   simp only [Act.put, nm1, nm2, nm3, i64_w]
   refine wpp fun K_ h_ => ?_; go_simp; refine h_ _ _ ?_; clear h_ K_
   refine wpList_nil ?_
   (try simp only [Exit.then, Exit.inBlock, ↓reduceIte, Nat.reduceEqDiff])
   refine hK307 _ _ ?_
   refine wp_cond_true rfl ?_
   refine wp_seq_k (fun K315 hK315 => ?_)
   refine wp_region_lit ?_
   refine wpp fun K_ h_ => ?_; go_simp; refine h_ _ _ ?_; clear h_ K_
   refine wpList_nil ?_
   (try simp only [Exit.then, Exit.inBlock, ↓reduceIte, Nat.reduceEqDiff])
   refine hK315 _ _ ?_
   refine wp_ret ?_
   (try simp only [Exit.then, Exit.inBlock, ↓reduceIte, Nat.reduceEqDiff])
   refine hQf _ _ _ ?_
   exact bodyPost_ret (v := .bool false) (by first | rfl | (simp [results, Try.results4, go_sem]; done) | (simp [results, Try.results4, go_sem]; rfl)) rfl ⟨rfl, ((hm273.out.trans hu300.out).trans hu306.out)⟩
  rw [if_pos c308] at H
  have c308n : (t297 != 0) = false := by rw [bne, c308]; rfl
  try simp only [c308, c308n, Bool.not_true, Bool.not_false]
  refine wpList_step fun K_ h_ => ?_; go_simp; refine h_ _ _ ?_; clear h_ K_
  refine wpList_step fun K_ h_ => ?_; go_simp; refine h_ _ _ ?_; clear h_ K_
  refine wpp fun K_ h_ => ?_; go_simp; refine h_ _ _ ?_; clear h_ K_
  refine wpp fun K_ h_ => ?_; go_simp; refine h_ _ _ ?_; clear h_ K_
  by_cases c311 : (t303 == 0) = true
  rotate_left
  ·
   rw [if_neg c311] at H; replace c311 := Bool.eq_false_iff.mpr c311
   have c311n : (t303 != 0) = true := by rw [bne, c311]; rfl
   have c311p : ¬ t303 = 0 := fun e => by simp [e] at c311
   obtain rfl := Option.some.inj H
   try simp only [c311, c311n, Bool.not_true, Bool.not_false]
   refine step_no rfl ?_
   simp only [Act.put, nm1, nm2, nm3, i64_w]
   refine step_no rfl ?_
   simp only [Act.put, nm1, nm2, nm3, i64_w]
   refine step_no rfl ?_
   simp only [Act.put, nm1, nm2, nm3, i64_w]
   refine wpp fun K_ h_ => ?_; go_simp; refine h_ _ _ ?_; clear h_ K_
   refine wpList_nil ?_
   (try simp only [Exit.then, Exit.inBlock, ↓reduceIte, Nat.reduceEqDiff])
   refine hK307 _ _ ?_
   as_aux_lemma =>
   refine wp_cond_true rfl ?_
   refine wp_seq_k (fun K314 hK314 => ?_)
   refine wp_region_lit ?_
   refine wpp fun K_ h_ => ?_; go_simp; refine h_ _ _ ?_; clear h_ K_
   refine wpList_nil ?_
   (try simp only [Exit.then, Exit.inBlock, ↓reduceIte, Nat.reduceEqDiff])
   refine hK314 _ _ ?_
   refine wp_ret ?_
   (try simp only [Exit.then, Exit.inBlock, ↓reduceIte, Nat.reduceEqDiff])
   refine hQf _ _ _ ?_
   exact bodyPost_ret (v := .bool false) (by first | rfl | (simp [results, Try.results4, go_sem]; done) | (simp [results, Try.results4, go_sem]; rfl)) rfl ⟨rfl, ((hm273.out.trans hu300.out).trans hu306.out)⟩
  rw [if_pos c311] at H
  have c311n : (t303 != 0) = false := by rw [bne, c311]; rfl
  try simp only [c311, c311n, Bool.not_true, Bool.not_false]
  refine wpList_step fun K_ h_ => ?_; go_simp; refine h_ _ _ ?_; clear h_ K_
  refine wpList_step fun K_ h_ => ?_; go_simp; refine h_ _ _ ?_; clear h_ K_
  refine wpList_step fun K_ h_ => ?_; go_simp; refine h_ _ _ ?_; clear h_ K_
  refine wpp fun K_ h_ => ?_; go_simp; refine h_ _ _ ?_; clear h_ K_
  refine wpList_nil ?_
  (try simp only [Exit.then, Exit.inBlock, ↓reduceIte, Nat.reduceEqDiff])
  refine hK307 _ _ ?_
  by_cases c312 : (t296 == t302) = true
  ·
   rw [if_pos c312] at H
   have c312n : (t296 != t302) = false := by rw [bne, c312]; rfl
   try simp only [c312, c312n, Bool.not_true, Bool.not_false]
   refine wp_cond_false rfl ?_
   refine wp_skip ?_
   (try simp only [Exit.then, Exit.inBlock, ↓reduceIte, Nat.reduceEqDiff])
   exact hK237 _ _ rfl (by kernel_rfl) ⟨H, ((((hu245.out.trans hu256.out).trans hu262.out).trans hu300.out).trans hu306.out)⟩
  rw [if_neg c312] at H; replace c312 := Bool.eq_false_iff.mpr c312
  have c312n : (t296 != t302) = true := by rw [bne, c312]; rfl
  have c312p : ¬ t296 = t302 := fun e => by simp [e] at c312
  obtain rfl := Option.some.inj H
  try simp only [c312, c312n, Bool.not_true, Bool.not_false]
  refine wp_cond_true rfl ?_
  refine wp_seq_k (fun K313 hK313 => ?_)
  refine wp_region_lit ?_
  refine wpp fun K_ h_ => ?_; go_simp; refine h_ _ _ ?_; clear h_ K_
  refine wpList_nil ?_
  (try simp only [Exit.then, Exit.inBlock, ↓reduceIte, Nat.reduceEqDiff])
  refine hK313 _ _ ?_
  refine wp_ret ?_
  (try simp only [Exit.then, Exit.inBlock, ↓reduceIte, Nat.reduceEqDiff])
  refine hQf _ _ _ ?_
  exact bodyPost_ret (v := .bool false) (by first | rfl | (simp [results, Try.results4, go_sem]; done) | (simp [results, Try.results4, go_sem]; rfl)) rfl ⟨rfl, ((hm273.out.trans hu300.out).trans hu306.out)⟩

end Go.Proofs.Ytccbmdpikalpfaa
