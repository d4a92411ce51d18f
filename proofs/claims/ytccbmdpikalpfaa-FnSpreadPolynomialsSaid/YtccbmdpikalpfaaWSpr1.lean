/- The walks: each of these functions of the program computes what its plain function says: laws_big, spec_l01From, spec_l01Next, spec_l01Pick, spec_l01DrawField, spec_l01Near, spec_l01BadField, spec_l05Draw, spec_DrawSpreadPolynomial, impl_IsField, impl_isNumber, impl_isIndex, impl_SpreadPolynomial_1, impl_asked__impl_SpreadPolynomial_1, impl_rest, impl_spreads, impl_spreadOf, impl_SpreadPolynomial, spec_l01In, spec_l01Field, spec_l01Numbers, spec_l05Code, spec_l01Mod, spec_l05Value, spec_SpreadPolynomial, impl_ZerosOf_1, impl_asked__impl_ZerosOf_1, impl_ZerosOf_2, impl_numbersWith__impl_ZerosOf_2, impl_ZerosOf, spec_l05Values, spec_l05Led, spec_ZerosOf, impl_LedTo_1, impl_asked__impl_LedTo_1, impl_LedTo_2, impl_numbersWith__impl_LedTo_2, impl_LedTo, spec_LedTo. -/
import Derived.Test.YtccbmdpikalpfaaProg
import Derived.Test.YtccbmdpikalpfaaD1
import Derived.WalkKit
import Derived.KernelRfl
import Derived.BigQuiet
import Derived.Deep.LoopGhost
import Derived.Laws.StructEq
namespace Go.Proofs.Ytccbmdpikalpfaa
open Go Go.RowKit
attribute [local go_sem] Oper.quiet Oper.quietAt Oper.quietUpon Act.put nm1 nm2 nm3 i64_w run_max2 run_min2
attribute [local irreducible] wpList
set_option linter.unusedVariables false
set_option linter.unusedSimpArgs false

set_option maxHeartbeats 40000000 in
set_option maxRecDepth 100000 in
theorem laws_big.calls (K : Nat) (a0_A : Option Addr) (a0_c : Nat) (a0 : List (Int)) (r0 : Bool) (w : World) (ha0 : Rd eU8 w a0_A a0) (h : laws_big.f K a0 = some (r0)) :
    Calls Try.prog 7 #[.slice a0_A a0.length a0_c] w fun e w' => e = .returned (.bool r0) ∧ Up w w' := by
 have H : (some (decide (4096 < (a0.length : Int))) : Option (Bool)) = some (r0) := h
 clear h
 obtain rfl := Option.some.inj H
 go_enter Try.func7, Try.ntmps7
 refine wp_hide (fun Qf hQf => ?_)
 refine wp_seq_k (fun K1 hK1 => ?_)
 refine wp_region_lit ?_
 refine wpp fun K_ h_ => ?_; go_simp; refine h_ _ _ ?_; clear h_ K_
 refine wpList_nil ?_
 (try simp only [Exit.then, Exit.inBlock, ↓reduceIte, Nat.reduceEqDiff])
 refine hK1 _ _ ?_
 refine wp_seq_k (fun K2 hK2 => ?_)
 refine wp_region_lit ?_
 refine wpp fun K_ h_ => ?_; go_simp; refine h_ _ _ ?_; clear h_ K_
 refine wpp fun K_ h_ => ?_; go_simp; refine h_ _ _ ?_; clear h_ K_
 refine wpp fun K_ h_ => ?_; go_simp; refine h_ _ _ ?_; clear h_ K_
 refine wpp fun K_ h_ => ?_; go_simp; refine h_ _ _ ?_; clear h_ K_
 refine wpList_nil ?_
 (try simp only [Exit.then, Exit.inBlock, ↓reduceIte, Nat.reduceEqDiff])
 refine hK2 _ _ ?_
 refine wp_ret ?_
 (try simp only [Exit.then, Exit.inBlock, ↓reduceIte, Nat.reduceEqDiff])
 refine hQf _ _ _ ?_
 exact bodyPost_ret (v := .bool (decide (4096 < (a0.length : Int)))) (by first | rfl | (simp [results, Try.results7, go_sem]; done) | (simp [results, Try.results7, go_sem]; rfl)) rfl ⟨rfl, (Up.refl _)⟩

set_option maxHeartbeats 40000000 in
set_option maxRecDepth 100000 in
theorem spec_l01From.calls (K : Nat) (a0_A : Option Addr) (a0_c : Nat) (a0 : List (Int)) (r0 : Int) (r1 : Int) (w : World) (ha0 : Rd eU8 w a0_A a0) (h : spec_l01From.f K a0 = some (r0, r1)) :
    Calls Try.prog 105 #[.slice a0_A a0.length a0_c] w fun e w' => ∃ (br : Nat), e = .returned (.pointer (some ⟨br, 0, none⟩)) ∧ Blk w' br [.slice a0_A a0.length a0_c, .int .i64 r0, .int .u64 r1] 158 ∧ Aside0 (w.heap.size ≤ br) ∧ Up w w' := by
 have H : ((spec_l01From.l0 K a0 K 0 0 (IntKind.u64.wrap (13701 + (IntKind.u64.wrap ((a0.length : Int)))))) : Option (Int × Int)) = some (r0, r1) := h
 clear h
 go_enter Try.func105, Try.ntmps105
 refine wp_hide (fun Qf hQf => ?_)
 refine wp_seq_k (fun K1 hK1 => ?_)
 refine wp_region_lit ?_
 refine wpp fun K_ h_ => ?_; go_simp; refine h_ _ _ ?_; clear h_ K_
 refine wpList_nil ?_
 (try simp only [Exit.then, Exit.inBlock, ↓reduceIte, Nat.reduceEqDiff])
 refine hK1 _ _ ?_
 refine wp_seq_k (fun K2 hK2 => ?_)
 refine wp_region_lit ?_
 refine wpp fun K_ h_ => ?_; go_simp; refine h_ _ _ ?_; clear h_ K_
 refine wpp fun K_ h_ => ?_; go_simp; refine h_ _ _ ?_; clear h_ K_
 refine wpp fun K_ h_ => ?_; go_simp; refine h_ _ _ ?_; clear h_ K_
 refine wpp fun K_ h_ => ?_; go_simp; refine h_ _ _ ?_; clear h_ K_
 refine wpp fun K_ h_ => ?_; go_simp; refine h_ _ _ ?_; clear h_ K_
 refine wpp fun K_ h_ => ?_; go_simp; refine h_ _ _ ?_; clear h_ K_
 refine step_new (cs := [.slice a0_A a0.length a0_c, .int .i64 0, .int .u64 (IntKind.u64.wrap (13701 + (IntKind.u64.wrap ((a0.length : Int)))))]) (T := 158) (f := fun b => .pointer (some ⟨b, 0, none⟩)) rfl (by go_simp <;> rfl) ?_
 intro b3 w4 hu lb hb3
 simp only [Act.put, nm1, nm2, nm3, i64_w]
 have lbb3 := Aside0.mk lb
 have ltb3 := Aside0.mk hb3.lt
 clear lb
 have hu5 := Aside0.mk hu
 clear hu
 refine wpp fun K_ h_ => ?_; go_simp; refine h_ _ _ ?_; clear h_ K_
 refine wpList_nil ?_
 (try simp only [Exit.then, Exit.inBlock, ↓reduceIte, Nat.reduceEqDiff])
 refine hK2 _ _ ?_
 refine wp_seq_k (fun K6 hK6 => ?_)
 refine wp_seq_k (fun K7 hK7 => ?_)
 refine wp_region_lit ?_
 refine wpp fun K_ h_ => ?_; go_simp; refine h_ _ _ ?_; clear h_ K_
 refine wpList_nil ?_
 (try simp only [Exit.then, Exit.inBlock, ↓reduceIte, Nat.reduceEqDiff])
 refine hK7 _ _ ?_
 refine wp_block ?_
 have HL14 := Aside0.mk H
 clear H
 go_loopg [4] K (fun kq v4 w' => ∃ (x8 : Int) (x9 : Int) (x10 : Int), v4 = .int .i64 x8 ∧ Aside0 (spec_l01From.l0 K a0 kq x8 x9 x10 = some (r0, r1)) ∧ Aside0 (kq ≤ K) ∧ Aside0 (Up w w') ∧ Aside0 (w4.heap.size ≤ w'.heap.size) ∧ Blk w' b3 [.slice a0_A a0.length a0_c, .int .i64 x9, .int .u64 x10] 158)
 case atStart => exact ⟨0, 0, IntKind.u64.wrap (13701 + (IntKind.u64.wrap ((a0.length : Int)))), (by first | rfl | simp), HL14, ⟨Nat.le_refl _⟩, ⟨hu5.out⟩, ⟨Nat.le_refl _⟩, hb3⟩
 case round =>
  rename_i J19 K20 hJ19 hK20
  obtain ⟨x8, x9, x10, rfl, HL18, hk17, hu12, hz13, h15⟩ := hrel
  obtain ⟨w11, rfl⟩ : ∃ wo : World, wo = wr := ⟨_, rfl⟩
  obtain ⟨k16, rfl⟩ | rfl : (∃ k, gk = k + 1) ∨ gk = 0 := by rcases gk with _ | k; exact .inr rfl; exact .inl ⟨k, rfl⟩
  case inr => exact absurd HL18.out (by simp [spec_l01From.l0])
  have H := HL18.out
  clear HL18
  rw [spec_l01From.l0] at H
  refine wp_seq_k (fun K21 hK21 => ?_)
  refine wp_seq_k (fun K22 hK22 => ?_)
  refine wp_region_lit ?_
  refine wpp fun K_ h_ => ?_; go_simp; refine h_ _ _ ?_; clear h_ K_
  refine wpp fun K_ h_ => ?_; go_simp; refine h_ _ _ ?_; clear h_ K_
  refine wpp fun K_ h_ => ?_; go_simp; refine h_ _ _ ?_; clear h_ K_
  refine wpp fun K_ h_ => ?_; go_simp; refine h_ _ _ ?_; clear h_ K_
  refine wpp fun K_ h_ => ?_; go_simp; refine h_ _ _ ?_; clear h_ K_
  by_cases c23 : (decide (x8 < (a0.length : Int))) = true
  rotate_left
  ·
   rw [if_neg c23] at H; replace c23 := Bool.eq_false_iff.mpr c23
   simp only [Option.some.injEq, Prod.mk.injEq] at H
   obtain ⟨rfl, rfl⟩ := H
   try simp only [c23, Bool.not_true, Bool.not_false]
   refine step_no rfl ?_
   simp only [Act.put, nm1, nm2, nm3, i64_w]
   refine step_no rfl ?_
   simp only [Act.put, nm1, nm2, nm3, i64_w]
   refine wpp fun K_ h_ => ?_; go_simp; refine h_ _ _ ?_; clear h_ K_
   refine wpList_nil ?_
   (try simp only [Exit.then, Exit.inBlock, ↓reduceIte, Nat.reduceEqDiff])
   refine hK22 _ _ ?_
   refine wp_cond_false rfl ?_
   refine wp_exit ?_
   (try simp only [Exit.then, Exit.inBlock, ↓reduceIte, Nat.reduceEqDiff])
   refine hK6 _ _ ?_
   refine wp_seq_k (fun K39 hK39 => ?_)
   refine wp_region_lit ?_
   refine wpp fun K_ h_ => ?_; go_simp; refine h_ _ _ ?_; clear h_ K_
   refine wpp fun K_ h_ => ?_; go_simp; refine h_ _ _ ?_; clear h_ K_
   refine wpList_nil ?_
   (try simp only [Exit.then, Exit.inBlock, ↓reduceIte, Nat.reduceEqDiff])
   refine hK39 _ _ ?_
   refine wp_ret ?_
   (try simp only [Exit.then, Exit.inBlock, ↓reduceIte, Nat.reduceEqDiff])
   refine hQf _ _ _ ?_
   exact bodyPost_ret (v := .pointer (some ⟨b3, 0, none⟩)) (by first | rfl | (simp [results, Try.results105, go_sem]; done) | (simp [results, Try.results105, go_sem]; rfl)) rfl ⟨b3, rfl, h15, ⟨lbb3.out⟩, hu12.out⟩
  rw [if_pos c23] at H
  try simp only [c23, Bool.not_true, Bool.not_false]
  refine wpList_step fun K_ h_ => ?_; go_simp; refine h_ _ _ ?_; clear h_ K_
  refine wpList_step fun K_ h_ => ?_; go_simp; refine h_ _ _ ?_; clear h_ K_
  refine wpp fun K_ h_ => ?_; go_simp; refine h_ _ _ ?_; clear h_ K_
  refine wpList_nil ?_
  (try simp only [Exit.then, Exit.inBlock, ↓reduceIte, Nat.reduceEqDiff])
  refine hK22 _ _ ?_
  by_cases c24 : (decide (x8 < 4096)) = true
  rotate_left
  ·
   rw [if_neg c24] at H; replace c24 := Bool.eq_false_iff.mpr c24
   simp only [Option.some.injEq, Prod.mk.injEq] at H
   obtain ⟨rfl, rfl⟩ := H
   try simp only [c24, Bool.not_true, Bool.not_false]
   refine wp_cond_false rfl ?_
   refine wp_exit ?_
   (try simp only [Exit.then, Exit.inBlock, ↓reduceIte, Nat.reduceEqDiff])
   refine hK6 _ _ ?_
   refine wp_seq_k (fun K38 hK38 => ?_)
   refine wp_region_lit ?_
   refine wpp fun K_ h_ => ?_; go_simp; refine h_ _ _ ?_; clear h_ K_
   refine wpp fun K_ h_ => ?_; go_simp; refine h_ _ _ ?_; clear h_ K_
   refine wpList_nil ?_
   (try simp only [Exit.then, Exit.inBlock, ↓reduceIte, Nat.reduceEqDiff])
   refine hK38 _ _ ?_
   refine wp_ret ?_
   (try simp only [Exit.then, Exit.inBlock, ↓reduceIte, Nat.reduceEqDiff])
   refine hQf _ _ _ ?_
   exact bodyPost_ret (v := .pointer (some ⟨b3, 0, none⟩)) (by first | rfl | (simp [results, Try.results105, go_sem]; done) | (simp [results, Try.results105, go_sem]; rfl)) rfl ⟨b3, rfl, h15, ⟨lbb3.out⟩, hu12.out⟩
  rw [if_pos c24] at H
  replace H := Option.bind_eq_some_iff.mp H
  obtain ⟨t26, A27, H⟩ := H
  replace A27 := Aside0.mk A27
  try dsimp only at H
  have HL37 := Aside0.mk H
  clear H
  try simp only [c24, Bool.not_true, Bool.not_false]
  refine wp_cond_true rfl ?_
  refine wp_skip ?_
  (try simp only [Exit.then, Exit.inBlock, ↓reduceIte, Nat.reduceEqDiff])
  refine hK21 _ _ ?_
  refine wp_seq_k (fun K25 hK25 => ?_)
  refine wp_block ?_
  obtain ⟨ad28, hat, he⟩ := rd_at (ha0.up hu12.out) A27.out
  have he29 := Aside0.mk he
  have hat31 := Aside0.mk hat
  clear he hat
  refine' wp_region_up 15 [Slot.det _, Slot.det _, Slot.det _, Slot.det _, Slot.det _, Slot.det _, Slot.det _, Slot.det _, Slot.det (.pointer (some ad28)), Slot.det _, Slot.det _, Slot.det _, Slot.det _, Slot.det _, Slot.det _] (by kernel_rfl) (by kernel_rfl) ?main
  case main =>
   simp only [List.take_succ_cons, List.take_zero]
   refine wpK_ops rfl (fun w1 hu => ?_) ?_
   · clear hu
     go_simp
     first | done | rfl
   simp only [Act.put, nm1, nm2, nm3, i64_w]
   refine wpK_ops rfl (fun w1 hu => ?_) ?_
   · clear hu
     go_simp
     first | done | rfl
   simp only [Act.put, nm1, nm2, nm3, i64_w]
   refine wpK_ops rfl (fun w1 hu => ?_) ?_
   · clear hu
     go_simp
     first | done | rfl
   simp only [Act.put, nm1, nm2, nm3, i64_w]
   refine wpK_ops rfl (fun w1 hu => ?_) ?_
   · clear hu
     go_simp
     first | done | rfl
   simp only [Act.put, nm1, nm2, nm3, i64_w]
   refine wpK_ops rfl (fun w1 hu => ?_) ?_
   · have cl0 := (h15.up ((Up.refl _).drew.trans hu)).cell (o := 2) rfl
     go_simp
     first | done | rfl
   simp only [Act.put, nm1, nm2, nm3, i64_w]
   refine wpK_ops rfl (fun w1 hu => ?_) ?_
   · clear hu
     go_simp
     first | done | rfl
   simp only [Act.put, nm1, nm2, nm3, i64_w]
   refine wpK_ops rfl (fun w1 hu => ?_) ?_
   · clear hu
     go_simp
     first | done | rfl
   simp only [Act.put, nm1, nm2, nm3, i64_w]
   refine wpK_ops rfl (fun w1 hu => ?_) ?_
   · clear hu
     go_simp
     first | done | rfl
   simp only [Act.put, nm1, nm2, nm3, i64_w]
   refine wpK_ops rfl (fun w1 hu => ?_) ?_
   · exact quiet_index eU8 (T := 5) rfl (by kernel_rfl) (by kernel_rfl) rfl rfl rfl hat31.out A27.out
   simp only [Act.put, nm1, nm2, nm3, i64_w]
   refine wpK_ops rfl (fun w1 hu => ?_) ?_
   · have cl0 := he29.out 0 _ rfl
     rw [addr_add0] at cl0
     replace cl0 := (((Up.refl _).drew.trans hu)).kept cl0
     go_simp
     first | done | rfl
   simp only [Act.put, nm1, nm2, nm3, i64_w]
   refine wpK_ops rfl (fun w1 hu => ?_) ?_
   · clear hu
     go_simp
     first | done | rfl
   simp only [Act.put, nm1, nm2, nm3, i64_w]
   refine wpK_ops rfl (fun w1 hu => ?_) ?_
   · clear hu
     go_simp
     first | done | rfl
   simp only [Act.put, nm1, nm2, nm3, i64_w]
   refine wpK_ops rfl (fun w1 hu => ?_) ?_
   · clear hu
     go_simp
     first | done | rfl
   simp only [Act.put, nm1, nm2, nm3, i64_w]
   refine wpK_ops rfl (fun w1 hu => ?_) ?_
   · clear hu
     go_simp
     first | done | rfl
   simp only [Act.put, nm1, nm2, nm3, i64_w]
   refine wpK_ops rfl (fun w1 hu => ?_) ?_
   · clear hu
     go_simp
     first | done | rfl
   simp only [Act.put, nm1, nm2, nm3, i64_w]
   refine wpK_nil ?_
   intro w32 hu hap
   simp only [List.drop_succ_cons, List.drop_zero]
   replace hu := (Up.refl _).drew.trans hu
   clear hap
   have hu33 := Aside0.mk hu
   clear hu
   have hB0 := (h15.up hu33.out)
   have cl0 := hB0.cell (o := 2) rfl
   have fr0 := hB0.free 2
   refine step_store (b := b3) (cs' := [.slice a0_A a0.length a0_c, .int .i64 x9, .int .u64 (IntKind.u64.wrap ((IntKind.u64.wrap ((IntKind.u64.wrap (x10 * 1099511628211)) + (IntKind.u64.wrap (t26)))) + 199))]) (T := 158) (W' := (w32.setCell ⟨b3, 2, none⟩ (.int .u64 (IntKind.u64.wrap ((IntKind.u64.wrap ((IntKind.u64.wrap (x10 * 1099511628211)) + (IntKind.u64.wrap (t26)))) + 199))))) rfl rfl (by go_simp <;> rfl) ((Sto.refl _ _).setCell 2 _) ((hB0).setCell 2 _) ?_
   clear hB0 cl0 fr0
   intro w34 hs hb36
   have hs35 := Aside0.mk hs
   clear hs
   refine wpList_nil ?_
   (try simp only [Exit.then, Exit.inBlock, ↓reduceIte, Nat.reduceEqDiff])
   refine hK25 _ _ ?_
   refine wp_region_lit ?_
   refine wpp fun K_ h_ => ?_; go_simp; refine h_ _ _ ?_; clear h_ K_
   refine wpp fun K_ h_ => ?_; go_simp; refine h_ _ _ ?_; clear h_ K_
   refine wpp fun K_ h_ => ?_; go_simp; refine h_ _ _ ?_; clear h_ K_
   refine wpList_nil ?_
   (try simp only [Exit.then, Exit.inBlock, ↓reduceIte, Nat.reduceEqDiff])
   refine hK20 _ _ ?_
   go_roundg k16
   case measure => exact Nat.lt_succ_self _
   case rel => exact ⟨wrap64 (x8 + 1), x9, IntKind.u64.wrap ((IntKind.u64.wrap ((IntKind.u64.wrap (x10 * 1099511628211)) + (IntKind.u64.wrap (t26)))) + 199), (by first | rfl | simp), HL37, ⟨by have := hk17.out; omega⟩, ⟨((hu12.out.trans hu33.out).sto (Nat.le_trans (Nat.le_refl _) lbb3.out) hs35.out)⟩, ⟨(Nat.le_trans ((Nat.le_trans ((Nat.le_trans (Nat.le_refl _) hz13.out)) hu33.out.size)) (Nat.le_of_eq hs35.out.size.symm))⟩, hb36⟩

set_option maxHeartbeats 40000000 in
set_option maxRecDepth 100000 in
theorem spec_l01Next.calls (K : Nat) (ba0 : Nat) (a0_0_A : Option Addr) (a0_0_c : Nat) (a0_0 : List (Int)) (a0_1 : Int) (a0_2 : Int) (a1 : Int) (r0 : Int) (r1 : Int) (r2 : Int) (w : World) (ha0 : Blk w ba0 [.slice a0_0_A a0_0.length a0_0_c, .int .i64 a0_1, .int .u64 a0_2] 158) (ha0_0 : Rd eU8 w a0_0_A a0_0) (haa0_0 : ∀ k, blk (.slice a0_0_A a0_0.length a0_0_c) = some k → 0 < a0_0.length → k ≠ ba0) (h : spec_l01Next.f K a0_0 a0_1 a0_2 a1 = some (r0, r1, r2)) :
    Calls Try.prog 160 #[.pointer (some ⟨ba0, 0, none⟩), .int .i64 a1] w fun e w' => e = .returned (.int .i64 r0) ∧ Blk w' ba0 [.slice a0_0_A a0_0.length a0_0_c, .int .i64 r1, .int .u64 r2] 158 ∧ Grow (.pointer (some ⟨ba0, 0, none⟩)) w w' := by
 have H : ((if decide (a1 < 1) = true then some (0, a0_1, a0_2) else (if decide (a0_1 < (a0_0.length : Int)) = true then ((idx a0_0 a0_1).bind fun t18 => (if (a1 == 0) = true then none else some (Int.tmod (wrap64 ((wrap64 (bits .and .u64 ((IntKind.u64.wrap ((IntKind.u64.wrap (a0_2 * 6364136223846793005)) + 1442695040888963407)) / 8589934592) 16777215)) + (wrap64 (t18)))) a1, wrap64 (a0_1 + 1), IntKind.u64.wrap ((IntKind.u64.wrap (a0_2 * 6364136223846793005)) + 1442695040888963407)))) else (if (a1 == 0) = true then none else some (Int.tmod (wrap64 (bits .and .u64 ((IntKind.u64.wrap ((IntKind.u64.wrap (a0_2 * 6364136223846793005)) + 1442695040888963407)) / 8589934592) 16777215)) a1, a0_1, IntKind.u64.wrap ((IntKind.u64.wrap (a0_2 * 6364136223846793005)) + 1442695040888963407))))) : Option (Int × Int × Int)) = some (r0, r1, r2) := h
 clear h
 have ltba0 := Aside0.mk ha0.lt
 go_enter Try.func160, Try.ntmps160
 refine wp_hide (fun Qf hQf => ?_)
 refine wp_seq_k (fun K1 hK1 => ?_)
 refine wp_region_lit ?_
 refine wpp fun K_ h_ => ?_; go_simp; refine h_ _ _ ?_; clear h_ K_
 refine wpList_nil ?_
 (try simp only [Exit.then, Exit.inBlock, ↓reduceIte, Nat.reduceEqDiff])
 refine hK1 _ _ ?_
 refine wp_seq_k (fun K2 hK2 => ?_)
 refine wp_seq_k (fun K3 hK3 => ?_)
 refine wp_region_lit ?_
 refine wpp fun K_ h_ => ?_; go_simp; refine h_ _ _ ?_; clear h_ K_
 refine wpp fun K_ h_ => ?_; go_simp; refine h_ _ _ ?_; clear h_ K_
 refine wpList_nil ?_
 (try simp only [Exit.then, Exit.inBlock, ↓reduceIte, Nat.reduceEqDiff])
 refine hK3 _ _ ?_
 by_cases c4 : (decide (a1 < 1)) = true
 ·
  rw [if_pos c4] at H
  simp only [Option.some.injEq, Prod.mk.injEq] at H
  obtain ⟨rfl, rfl, rfl⟩ := H
  try simp only [c4, Bool.not_true, Bool.not_false]
  refine wp_cond_true rfl ?_
  refine wp_seq_k (fun K5 hK5 => ?_)
  refine wp_region_lit ?_
  refine wpp fun K_ h_ => ?_; go_simp; refine h_ _ _ ?_; clear h_ K_
  refine wpList_nil ?_
  (try simp only [Exit.then, Exit.inBlock, ↓reduceIte, Nat.reduceEqDiff])
  refine hK5 _ _ ?_
  refine wp_ret ?_
  (try simp only [Exit.then, Exit.inBlock, ↓reduceIte, Nat.reduceEqDiff])
  refine hQf _ _ _ ?_
  exact bodyPost_ret (v := .int .i64 0) (by first | rfl | (simp [results, Try.results160, go_sem]; done) | (simp [results, Try.results160, go_sem]; rfl)) rfl ⟨rfl, ha0, (Grow.refl (.pointer (some ⟨ba0, 0, none⟩)) _)⟩
 rw [if_neg c4] at H; replace c4 := Bool.eq_false_iff.mpr c4
 try simp only [c4, Bool.not_true, Bool.not_false]
 refine wp_cond_false rfl ?_
 refine wp_skip ?_
 (try simp only [Exit.then, Exit.inBlock, ↓reduceIte, Nat.reduceEqDiff])
 refine hK2 _ _ ?_
 refine wp_seq_k (fun K6 hK6 => ?_)
 refine wp_region_lit ?_
 refine wpp fun K_ h_ => ?_; go_simp; refine h_ _ _ ?_; clear h_ K_
 refine wpp fun K_ h_ => ?_; go_simp; refine h_ _ _ ?_; clear h_ K_
 refine wpp fun K_ h_ => ?_; go_simp; refine h_ _ _ ?_; clear h_ K_
 refine wpp fun K_ h_ => ?_; go_simp; refine h_ _ _ ?_; clear h_ K_
 have cl0 := ha0.cell (o := 2) rfl
 refine wpp fun K_ h_ => ?_; go_simp; refine h_ _ _ ?_; clear h_ K_
 clear cl0
 refine wpp fun K_ h_ => ?_; go_simp; refine h_ _ _ ?_; clear h_ K_
 refine wpp fun K_ h_ => ?_; go_simp; refine h_ _ _ ?_; clear h_ K_
 refine wpp fun K_ h_ => ?_; go_simp; refine h_ _ _ ?_; clear h_ K_
 refine wpp fun K_ h_ => ?_; go_simp; refine h_ _ _ ?_; clear h_ K_
 have hB0 := ha0
 have cl0 := hB0.cell (o := 2) rfl
 have fr0 := hB0.free 2
 refine step_store (b := ba0) (cs' := [.slice a0_0_A a0_0.length a0_0_c, .int .i64 a0_1, .int .u64 (IntKind.u64.wrap ((IntKind.u64.wrap (a0_2 * 6364136223846793005)) + 1442695040888963407))]) (T := 158) (W' := (w.setCell ⟨ba0, 2, none⟩ (.int .u64 (IntKind.u64.wrap ((IntKind.u64.wrap (a0_2 * 6364136223846793005)) + 1442695040888963407))))) rfl rfl (by go_simp <;> rfl) ((Sto.refl _ _).setCell 2 _) ((hB0).setCell 2 _) ?_
 clear hB0 cl0 fr0
 intro w7 hs hb9
 have hs8 := Aside0.mk hs
 clear hs
 have h10 := ha0_0.sto hs8.out haa0_0
 refine wpList_nil ?_
 (try simp only [Exit.then, Exit.inBlock, ↓reduceIte, Nat.reduceEqDiff])
 refine hK6 _ _ ?_
 refine wp_seq_k (fun K11 hK11 => ?_)
 refine wp_region_lit ?_
 refine wpp fun K_ h_ => ?_; go_simp; refine h_ _ _ ?_; clear h_ K_
 refine wpp fun K_ h_ => ?_; go_simp; refine h_ _ _ ?_; clear h_ K_
 refine wpp fun K_ h_ => ?_; go_simp; refine h_ _ _ ?_; clear h_ K_
 have cl0 := hb9.cell (o := 2) rfl
 refine wpp fun K_ h_ => ?_; go_simp; refine h_ _ _ ?_; clear h_ K_
 clear cl0
 refine wpp fun K_ h_ => ?_; go_simp; refine h_ _ _ ?_; clear h_ K_
 refine wpp fun K_ h_ => ?_; go_simp; refine h_ _ _ ?_; clear h_ K_
 refine wpp fun K_ h_ => ?_; go_simp; refine h_ _ _ ?_; clear h_ K_
 refine wpp fun K_ h_ => ?_; go_simp; refine h_ _ _ ?_; clear h_ K_
 refine wpList_nil ?_
 (try simp only [Exit.then, Exit.inBlock, ↓reduceIte, Nat.reduceEqDiff])
 refine hK11 _ _ ?_
 refine wp_seq_k (fun K12 hK12 => ?_)
 refine wp_seq_k (fun K13 hK13 => ?_)
 refine' wp_region_up 10 [Slot.det _, Slot.det _, Slot.det _, Slot.det _, Slot.det _, Slot.det _, Slot.det _, Slot.det _, Slot.det _, Slot.det _] (by kernel_rfl) (by kernel_rfl) ?main
 case main =>
  simp only [List.take_succ_cons, List.take_zero]
  refine wpK_ops rfl (fun w1 hu => ?_) ?_
  · clear hu
    go_simp
    first | done | rfl
  simp only [Act.put, nm1, nm2, nm3, i64_w]
  refine wpK_ops rfl (fun w1 hu => ?_) ?_
  · clear hu
    go_simp
    first | done | rfl
  simp only [Act.put, nm1, nm2, nm3, i64_w]
  refine wpK_ops rfl (fun w1 hu => ?_) ?_
  · clear hu
    go_simp
    first | done | rfl
  simp only [Act.put, nm1, nm2, nm3, i64_w]
  refine wpK_ops rfl (fun w1 hu => ?_) ?_
  · have cl0 := (hb9.up ((Up.refl _).drew.trans hu)).cell (o := 1) rfl
    go_simp
    first | done | rfl
  simp only [Act.put, nm1, nm2, nm3, i64_w]
  refine wpK_ops rfl (fun w1 hu => ?_) ?_
  · clear hu
    go_simp
    first | done | rfl
  simp only [Act.put, nm1, nm2, nm3, i64_w]
  refine wpK_ops rfl (fun w1 hu => ?_) ?_
  · clear hu
    go_simp
    first | done | rfl
  simp only [Act.put, nm1, nm2, nm3, i64_w]
  refine wpK_ops rfl (fun w1 hu => ?_) ?_
  · clear hu
    go_simp
    first | done | rfl
  simp only [Act.put, nm1, nm2, nm3, i64_w]
  refine wpK_ops rfl (fun w1 hu => ?_) ?_
  · have cl0 := (hb9.up ((Up.refl _).drew.trans hu)).cell (o := 0) rfl
    go_simp
    first | done | rfl
  simp only [Act.put, nm1, nm2, nm3, i64_w]
  refine wpK_ops rfl (fun w1 hu => ?_) ?_
  · clear hu
    go_simp
    first | done | rfl
  simp only [Act.put, nm1, nm2, nm3, i64_w]
  refine wpK_ops rfl (fun w1 hu => ?_) ?_
  · clear hu
    go_simp
    first | done | rfl
  simp only [Act.put, nm1, nm2, nm3, i64_w]
  refine wpK_nil ?_
  intro w14 hu hap
  simp only [List.drop_succ_cons, List.drop_zero]
  replace hu := (Up.refl _).drew.trans hu
  clear hap
  have hu15 := Aside0.mk hu
  clear hu
  refine wpList_nil ?_
  (try simp only [Exit.then, Exit.inBlock, ↓reduceIte, Nat.reduceEqDiff])
  refine hK13 _ _ ?_
  by_cases c16 : (decide (a0_1 < (a0_0.length : Int))) = true
  rotate_left
  ·
   rw [if_neg c16] at H; replace c16 := Bool.eq_false_iff.mpr c16
   try simp only [c16, Bool.not_true, Bool.not_false]
   refine wp_cond_false rfl ?_
   refine wp_skip ?_
   (try simp only [Exit.then, Exit.inBlock, ↓reduceIte, Nat.reduceEqDiff])
   refine hK12 _ _ ?_
   refine wp_seq_k (fun K33 hK33 => ?_)
   refine wp_region_lit ?_
   refine wpp fun K_ h_ => ?_; go_simp; refine h_ _ _ ?_; clear h_ K_
   refine wpp fun K_ h_ => ?_; go_simp; refine h_ _ _ ?_; clear h_ K_
   by_cases c34 : (a1 == 0) = true
   ·
    rw [if_pos c34] at H
    have c34n : (a1 != 0) = false := by rw [bne, c34]; rfl
    exact absurd H (by simp)
   rw [if_neg c34] at H; replace c34 := Bool.eq_false_iff.mpr c34
   have c34n : (a1 != 0) = true := by rw [bne, c34]; rfl
   have c34p : ¬ a1 = 0 := fun e => by simp [e] at c34
   simp only [Option.some.injEq, Prod.mk.injEq] at H
   obtain ⟨rfl, rfl, rfl⟩ := H
   try simp only [c34, c34n, Bool.not_true, Bool.not_false]
   refine wpp fun K_ h_ => ?_; go_simp; refine h_ _ _ ?_; clear h_ K_
   refine wpp fun K_ h_ => ?_; go_simp; refine h_ _ _ ?_; clear h_ K_
   refine wpList_nil ?_
   (try simp only [Exit.then, Exit.inBlock, ↓reduceIte, Nat.reduceEqDiff])
   refine hK33 _ _ ?_
   refine wp_ret ?_
   (try simp only [Exit.then, Exit.inBlock, ↓reduceIte, Nat.reduceEqDiff])
   refine hQf _ _ _ ?_
   exact bodyPost_ret (v := .int .i64 (Int.tmod (wrap64 (bits .and .u64 ((IntKind.u64.wrap ((IntKind.u64.wrap (a0_2 * 6364136223846793005)) + 1442695040888963407)) / 8589934592) 16777215)) a1)) (by first | rfl | (simp [results, Try.results160, go_sem]; done) | (simp [results, Try.results160, go_sem]; rfl)) rfl ⟨rfl, (hb9.up hu15.out), (((Grow.refl (.pointer (some ⟨ba0, 0, none⟩)) _).trans (Grow.of_sto hs8.out)).trans (Grow.up hu15.out))⟩
  rw [if_pos c16] at H
  replace H := Option.bind_eq_some_iff.mp H
  obtain ⟨t18, A19, H⟩ := H
  replace A19 := Aside0.mk A19
  try dsimp only at H
  try simp only [c16, Bool.not_true, Bool.not_false]
  refine wp_cond_true rfl ?_
  refine wp_seq_k (fun K17 hK17 => ?_)
  obtain ⟨ad20, hat, he⟩ := rd_at (h10.up hu15.out) A19.out
  have he21 := Aside0.mk he
  have hat23 := Aside0.mk hat
  clear he hat
  refine' wp_region_up 13 [Slot.det _, Slot.det _, Slot.det _, Slot.det _, Slot.det _, Slot.det _, Slot.det _, Slot.det _, Slot.det _, Slot.det (.pointer (some ad20)), Slot.det _, Slot.det _, Slot.det _] (by kernel_rfl) (by kernel_rfl) ?main
  case main =>
   simp only [List.take_succ_cons, List.take_zero]
   refine wpK_ops rfl (fun w1 hu => ?_) ?_
   · clear hu
     go_simp
     first | done | rfl
   simp only [Act.put, nm1, nm2, nm3, i64_w]
   refine wpK_ops rfl (fun w1 hu => ?_) ?_
   · clear hu
     go_simp
     first | done | rfl
   simp only [Act.put, nm1, nm2, nm3, i64_w]
   refine wpK_ops rfl (fun w1 hu => ?_) ?_
   · clear hu
     go_simp
     first | done | rfl
   simp only [Act.put, nm1, nm2, nm3, i64_w]
   refine wpK_ops rfl (fun w1 hu => ?_) ?_
   · clear hu
     go_simp
     first | done | rfl
   simp only [Act.put, nm1, nm2, nm3, i64_w]
   refine wpK_ops rfl (fun w1 hu => ?_) ?_
   · have cl0 := ((hb9.up hu15.out).up ((Up.refl _).drew.trans hu)).cell (o := 0) rfl
     go_simp
     first | done | rfl
   simp only [Act.put, nm1, nm2, nm3, i64_w]
   refine wpK_ops rfl (fun w1 hu => ?_) ?_
   · clear hu
     go_simp
     first | done | rfl
   simp only [Act.put, nm1, nm2, nm3, i64_w]
   refine wpK_ops rfl (fun w1 hu => ?_) ?_
   · clear hu
     go_simp
     first | done | rfl
   simp only [Act.put, nm1, nm2, nm3, i64_w]
   refine wpK_ops rfl (fun w1 hu => ?_) ?_
   · clear hu
     go_simp
     first | done | rfl
   simp only [Act.put, nm1, nm2, nm3, i64_w]
   refine wpK_ops rfl (fun w1 hu => ?_) ?_
   · have cl0 := ((hb9.up hu15.out).up ((Up.refl _).drew.trans hu)).cell (o := 1) rfl
     go_simp
     first | done | rfl
   simp only [Act.put, nm1, nm2, nm3, i64_w]
   refine wpK_ops rfl (fun w1 hu => ?_) ?_
   · exact quiet_index eU8 (T := 5) rfl (by kernel_rfl) (by kernel_rfl) rfl rfl rfl hat23.out A19.out
   simp only [Act.put, nm1, nm2, nm3, i64_w]
   refine wpK_ops rfl (fun w1 hu => ?_) ?_
   · have cl0 := he21.out 0 _ rfl
     rw [addr_add0] at cl0
     replace cl0 := (((Up.refl _).drew.trans hu)).kept cl0
     go_simp
     first | done | rfl
   simp only [Act.put, nm1, nm2, nm3, i64_w]
   refine wpK_ops rfl (fun w1 hu => ?_) ?_
   · clear hu
     go_simp
     first | done | rfl
   simp only [Act.put, nm1, nm2, nm3, i64_w]
   refine wpK_ops rfl (fun w1 hu => ?_) ?_
   · clear hu
     go_simp
     first | done | rfl
   simp only [Act.put, nm1, nm2, nm3, i64_w]
   refine wpK_nil ?_
   intro w24 hu hap
   simp only [List.drop_succ_cons, List.drop_zero]
   replace hu := (Up.refl _).drew.trans hu
   clear hap
   have hu25 := Aside0.mk hu
   clear hu
   refine wpp fun K_ h_ => ?_; go_simp; refine h_ _ _ ?_; clear h_ K_
   refine wpList_nil ?_
   (try simp only [Exit.then, Exit.inBlock, ↓reduceIte, Nat.reduceEqDiff])
   refine hK17 _ _ ?_
   refine wp_region_lit ?_
   refine wpp fun K_ h_ => ?_; go_simp; refine h_ _ _ ?_; clear h_ K_
   refine wpp fun K_ h_ => ?_; go_simp; refine h_ _ _ ?_; clear h_ K_
   refine wpp fun K_ h_ => ?_; go_simp; refine h_ _ _ ?_; clear h_ K_
   refine wpp fun K_ h_ => ?_; go_simp; refine h_ _ _ ?_; clear h_ K_
   have cl0 := (hb9.up (hu15.out.trans hu25.out)).cell (o := 1) rfl
   refine wpp fun K_ h_ => ?_; go_simp; refine h_ _ _ ?_; clear h_ K_
   clear cl0
   refine wpp fun K_ h_ => ?_; go_simp; refine h_ _ _ ?_; clear h_ K_
   refine wpp fun K_ h_ => ?_; go_simp; refine h_ _ _ ?_; clear h_ K_
   refine wpp fun K_ h_ => ?_; go_simp; refine h_ _ _ ?_; clear h_ K_
   have hB0 := (hb9.up (hu15.out.trans hu25.out))
   have cl0 := hB0.cell (o := 1) rfl
   have fr0 := hB0.free 1
   refine step_store (b := ba0) (cs' := [.slice a0_0_A a0_0.length a0_0_c, .int .i64 (wrap64 (a0_1 + 1)), .int .u64 (IntKind.u64.wrap ((IntKind.u64.wrap (a0_2 * 6364136223846793005)) + 1442695040888963407))]) (T := 158) (W' := (w24.setCell ⟨ba0, 1, none⟩ (.int .i64 (wrap64 (a0_1 + 1))))) rfl rfl (by go_simp <;> rfl) ((Sto.refl _ _).setCell 1 _) ((hB0).setCell 1 _) ?_
   clear hB0 cl0 fr0
   intro w26 hs hb28
   have hs27 := Aside0.mk hs
   clear hs
   have h29 := (h10.up (hu15.out.trans hu25.out)).sto hs27.out haa0_0
   refine wpList_nil ?_
   (try simp only [Exit.then, Exit.inBlock, ↓reduceIte, Nat.reduceEqDiff])
   refine hK12 _ _ ?_
   refine wp_seq_k (fun K30 hK30 => ?_)
   refine wp_region_lit ?_
   refine wpp fun K_ h_ => ?_; go_simp; refine h_ _ _ ?_; clear h_ K_
   refine wpp fun K_ h_ => ?_; go_simp; refine h_ _ _ ?_; clear h_ K_
   have hm32 := Aside0.mk (Nat.le_trans ((Nat.le_trans ((Nat.le_trans ((Nat.le_of_eq hs8.out.size.symm)) hu15.out.size)) hu25.out.size)) (Nat.le_of_eq hs27.out.size.symm))
   by_cases c31 : (a1 == 0) = true
   ·
    rw [if_pos c31] at H
    have c31n : (a1 != 0) = false := by rw [bne, c31]; rfl
    exact absurd H (by simp)
   rw [if_neg c31] at H; replace c31 := Bool.eq_false_iff.mpr c31
   have c31n : (a1 != 0) = true := by rw [bne, c31]; rfl
   have c31p : ¬ a1 = 0 := fun e => by simp [e] at c31
   simp only [Option.some.injEq, Prod.mk.injEq] at H
   obtain ⟨rfl, rfl, rfl⟩ := H
   try simp only [c31, c31n, Bool.not_true, Bool.not_false]
   refine wpp fun K_ h_ => ?_; go_simp; refine h_ _ _ ?_; clear h_ K_
   refine wpp fun K_ h_ => ?_; go_simp; refine h_ _ _ ?_; clear h_ K_
   refine wpList_nil ?_
   (try simp only [Exit.then, Exit.inBlock, ↓reduceIte, Nat.reduceEqDiff])
   refine hK30 _ _ ?_
   refine wp_ret ?_
   (try simp only [Exit.then, Exit.inBlock, ↓reduceIte, Nat.reduceEqDiff])
   refine hQf _ _ _ ?_
   exact bodyPost_ret (v := .int .i64 (Int.tmod (wrap64 ((wrap64 (bits .and .u64 ((IntKind.u64.wrap ((IntKind.u64.wrap (a0_2 * 6364136223846793005)) + 1442695040888963407)) / 8589934592) 16777215)) + (wrap64 (t18)))) a1)) (by first | rfl | (simp [results, Try.results160, go_sem]; done) | (simp [results, Try.results160, go_sem]; rfl)) rfl ⟨rfl, hb28, (((((Grow.refl (.pointer (some ⟨ba0, 0, none⟩)) _).trans (Grow.of_sto hs8.out)).trans (Grow.up hu15.out)).trans (Grow.up hu25.out)).trans (Grow.of_sto hs27.out))⟩

set_option maxHeartbeats 40000000 in
set_option maxRecDepth 100000 in
theorem spec_l01Pick.calls (K : Nat) (ba0 : Nat) (a0_0_A : Option Addr) (a0_0_c : Nat) (a0_0 : List (Int)) (a0_1 : Int) (a0_2 : Int) (a1_A : Option Addr) (a1_c : Nat) (a1 : List (Int)) (r0 : Int) (r1 : Int) (r2 : Int) (w : World) (ha0 : Blk w ba0 [.slice a0_0_A a0_0.length a0_0_c, .int .i64 a0_1, .int .u64 a0_2] 158) (ha0_0 : Rd eU8 w a0_0_A a0_0) (haa0_0 : ∀ k, blk (.slice a0_0_A a0_0.length a0_0_c) = some k → 0 < a0_0.length → k ≠ ba0) (ha1 : Rd eI w a1_A a1) (haa1 : ∀ k, blk (.slice a1_A a1.length a1_c) = some k → 0 < a1.length → k ≠ ba0) (h : spec_l01Pick.f K a0_0 a0_1 a0_2 a1 = some (r0, r1, r2)) :
    Calls Try.prog 179 #[.pointer (some ⟨ba0, 0, none⟩), .slice a1_A a1.length a1_c] w fun e w' => e = .returned (.int .i64 r0) ∧ Blk w' ba0 [.slice a0_0_A a0_0.length a0_0_c, .int .i64 r1, .int .u64 r2] 158 ∧ Grow (.pointer (some ⟨ba0, 0, none⟩)) w w' := by
 have H : (((spec_l01Next.f K a0_0 a0_1 a0_2 (a1.length : Int)).bind fun (t3, t4, t5) => ((idx a1 t3).bind fun t12 => some (t12, t4, t5))) : Option (Int × Int × Int)) = some (r0, r1, r2) := h
 clear h
 replace H := Option.bind_eq_some_iff.mp H
 obtain ⟨⟨t3, t4, t5⟩, A6, H⟩ := H
 replace A6 := Aside0.mk A6
 try dsimp only at H
 replace H := Option.bind_eq_some_iff.mp H
 obtain ⟨t12, A13, H⟩ := H
 replace A13 := Aside0.mk A13
 try dsimp only at H
 simp only [Option.some.injEq, Prod.mk.injEq] at H
 obtain ⟨rfl, rfl, rfl⟩ := H
 have ltba0 := Aside0.mk ha0.lt
 go_enter Try.func179, Try.ntmps179
 refine wp_hide (fun Qf hQf => ?_)
 refine wp_seq_k (fun K1 hK1 => ?_)
 refine wp_region_lit ?_
 refine wpp fun K_ h_ => ?_; go_simp; refine h_ _ _ ?_; clear h_ K_
 refine wpList_nil ?_
 (try simp only [Exit.then, Exit.inBlock, ↓reduceIte, Nat.reduceEqDiff])
 refine hK1 _ _ ?_
 refine wp_seq_k (fun K2 hK2 => ?_)
 refine wp_region_lit ?_
 refine wpp fun K_ h_ => ?_; go_simp; refine h_ _ _ ?_; clear h_ K_
 refine wpp fun K_ h_ => ?_; go_simp; refine h_ _ _ ?_; clear h_ K_
 refine wpp fun K_ h_ => ?_; go_simp; refine h_ _ _ ?_; clear h_ K_
 refine wpp fun K_ h_ => ?_; go_simp; refine h_ _ _ ?_; clear h_ K_
 refine step_call (wanted_none rfl) (by go_simp <;> rfl) (spec_l01Next.calls K ba0 a0_0_A a0_0_c a0_0 a0_1 a0_2 (a1.length : Int) t3 t4 t5 w ha0 ha0_0 haa0_0 A6.out) ?_
 rintro e w7 ⟨rfl, h8, hs⟩
 have hs9 := Aside0.mk hs
 clear hs
 have h10 := ha0_0.growp hs9.out haa0_0
 have h11 := ha1.growp hs9.out haa1
 refine ⟨_, rfl, ?_⟩
 simp only [Act.put, nm1, nm2, nm3, i64_w]
 refine step_index eI (T := 2) (wanted_none rfl) rfl (by kernel_rfl) (by kernel_rfl) rfl rfl rfl h11 A13.out ?_
 intro ad14 hat he
 have he15 := Aside0.mk he
 have hat16 := Aside0.mk hat
 clear he hat
 simp only [Act.put, nm1, nm2, nm3, i64_w]
 have cl0 := he15.out 0 _ rfl
 rw [addr_add0] at cl0
 refine wpp fun K_ h_ => ?_; go_simp; refine h_ _ _ ?_; clear h_ K_
 clear cl0
 refine wpp fun K_ h_ => ?_; go_simp; refine h_ _ _ ?_; clear h_ K_
 refine wpList_nil ?_
 (try simp only [Exit.then, Exit.inBlock, ↓reduceIte, Nat.reduceEqDiff])
 refine hK2 _ _ ?_
 refine wp_ret ?_
 (try simp only [Exit.then, Exit.inBlock, ↓reduceIte, Nat.reduceEqDiff])
 refine hQf _ _ _ ?_
 exact bodyPost_ret (v := .int .i64 t12) (by first | rfl | (simp [results, Try.results179, go_sem]; done) | (simp [results, Try.results179, go_sem]; rfl)) rfl ⟨rfl, h8, ((Grow.refl (.pointer (some ⟨ba0, 0, none⟩)) _).trans hs9.out)⟩

set_option maxHeartbeats 40000000 in
set_option maxRecDepth 100000 in
theorem spec_l01DrawField.calls (K : Nat) (ba0 : Nat) (a0_0_A : Option Addr) (a0_0_c : Nat) (a0_0 : List (Int)) (a0_1 : Int) (a0_2 : Int) (r0 : Int) (r1 : Int) (r2 : Int) (w : World) (ha0 : Blk w ba0 [.slice a0_0_A a0_0.length a0_0_c, .int .i64 a0_1, .int .u64 a0_2] 158) (ha0_0 : Rd eU8 w a0_0_A a0_0) (haa0_0 : ∀ k, blk (.slice a0_0_A a0_0.length a0_0_c) = some k → 0 < a0_0.length → k ≠ ba0) (h : spec_l01DrawField.f K a0_0 a0_1 a0_2 = some (r0, r1, r2)) :
    Calls Try.prog 106 #[.pointer (some ⟨ba0, 0, none⟩)] w fun e w' => e = .returned (.int .i64 r0) ∧ Blk w' ba0 [.slice a0_0_A a0_0.length a0_0_c, .int .i64 r1, .int .u64 r2] 158 ∧ Grow (.pointer (some ⟨ba0, 0, none⟩)) w w' := by
 have H : (((spec_l01Pick.f K a0_0 a0_1 a0_2 ([3, 5, 5, 7, 7, 11, 13, 13, 17, 19, 23, 29, 31])).bind fun (t6, t7, t8) => some (t6, t7, t8)) : Option (Int × Int × Int)) = some (r0, r1, r2) := h
 clear h
 replace H := Option.bind_eq_some_iff.mp H
 obtain ⟨⟨t6, t7, t8⟩, A9, H⟩ := H
 replace A9 := Aside0.mk A9
 try dsimp only at H
 simp only [Option.some.injEq, Prod.mk.injEq] at H
 obtain ⟨rfl, rfl, rfl⟩ := H
 have ltba0 := Aside0.mk ha0.lt
 go_enter Try.func106, Try.ntmps106
 refine wp_hide (fun Qf hQf => ?_)
 refine wp_seq_k (fun K1 hK1 => ?_)
 refine wp_region_lit ?_
 refine wpp fun K_ h_ => ?_; go_simp; refine h_ _ _ ?_; clear h_ K_
 refine wpList_nil ?_
 (try simp only [Exit.then, Exit.inBlock, ↓reduceIte, Nat.reduceEqDiff])
 refine hK1 _ _ ?_
 refine wp_seq_k (fun K2 hK2 => ?_)
 refine wp_region_lit ?_
 refine wpp fun K_ h_ => ?_; go_simp; refine h_ _ _ ?_; clear h_ K_
 refine step_new (cs := [.int .i64 3, .int .i64 5, .int .i64 5, .int .i64 7, .int .i64 7, .int .i64 11, .int .i64 13, .int .i64 13, .int .i64 17, .int .i64 19, .int .i64 23, .int .i64 29, .int .i64 31]) (T := 2) (f := fun b => .slice (some ⟨b, 0, none⟩) 13 13) rfl (by go_simp <;> rfl) ?_
 intro b3 w4 hu lb hb3
 simp only [Act.put, nm1, nm2, nm3, i64_w]
 have lbb3 := Aside0.mk lb
 have ltb3 := Aside0.mk hb3.lt
 clear lb
 have hu5 := Aside0.mk hu
 clear hu
 refine step_call (wanted_none rfl) (by go_simp <;> rfl) (spec_l01Pick.calls K ba0 a0_0_A a0_0_c a0_0 a0_1 a0_2 (some ⟨b3, 0, none⟩) 13 ([3, 5, 5, 7, 7, 11, 13, 13, 17, 19, 23, 29, 31]) t6 t7 t8 w4 (ha0.up hu5.out) (ha0_0.up hu5.out) haa0_0 (Rd.of_blk (E := eI) (xs := [3, 5, 5, 7, 7, 11, 13, 13, 17, 19, 23, 29, 31]) (o := 0) hb3 (by simp) (fun j u hu => by rcases j with j <;> simp_all [Enc.flat, eI])) (fun k hk hp e => (Ne.symm (Nat.ne_of_lt (Nat.lt_of_lt_of_le ltba0.out lbb3.out))) ((Option.some.inj hk).trans e)) A9.out) ?_
 rintro e w10 ⟨rfl, h11, hs⟩
 have hs12 := Aside0.mk hs
 clear hs
 have h13 := (ha0_0.up hu5.out).growp hs12.out haa0_0
 have h14 := hb3.grow hs12.out (fun k hk e => (Nat.ne_of_lt (Nat.lt_of_lt_of_le ltba0.out lbb3.out)) ((Option.some.inj hk).trans e))
 refine ⟨_, rfl, ?_⟩
 simp only [Act.put, nm1, nm2, nm3, i64_w]
 refine wpp fun K_ h_ => ?_; go_simp; refine h_ _ _ ?_; clear h_ K_
 refine wpList_nil ?_
 (try simp only [Exit.then, Exit.inBlock, ↓reduceIte, Nat.reduceEqDiff])
 refine hK2 _ _ ?_
 refine wp_ret ?_
 (try simp only [Exit.then, Exit.inBlock, ↓reduceIte, Nat.reduceEqDiff])
 refine hQf _ _ _ ?_
 exact bodyPost_ret (v := .int .i64 t6) (by first | rfl | (simp [results, Try.results106, go_sem]; done) | (simp [results, Try.results106, go_sem]; rfl)) rfl ⟨rfl, h11, (((Grow.refl (.pointer (some ⟨ba0, 0, none⟩)) _).trans (Grow.up hu5.out)).trans hs12.out)⟩

set_option maxHeartbeats 40000000 in
set_option maxRecDepth 100000 in
theorem spec_l01Near.calls (K : Nat) (ba0 : Nat) (a0_0_A : Option Addr) (a0_0_c : Nat) (a0_0 : List (Int)) (a0_1 : Int) (a0_2 : Int) (a1 : Int) (r0 : Int) (r1 : Int) (r2 : Int) (w : World) (ha0 : Blk w ba0 [.slice a0_0_A a0_0.length a0_0_c, .int .i64 a0_1, .int .u64 a0_2] 158) (ha0_0 : Rd eU8 w a0_0_A a0_0) (haa0_0 : ∀ k, blk (.slice a0_0_A a0_0.length a0_0_c) = some k → 0 < a0_0.length → k ≠ ba0) (h : spec_l01Near.f K a0_0 a0_1 a0_2 a1 = some (r0, r1, r2)) :
    Calls Try.prog 107 #[.pointer (some ⟨ba0, 0, none⟩), .int .i64 a1] w fun e w' => e = .returned (.int .i64 r0) ∧ Blk w' ba0 [.slice a0_0_A a0_0.length a0_0_c, .int .i64 r1, .int .u64 r2] 158 ∧ Grow (.pointer (some ⟨ba0, 0, none⟩)) w w' := by
 have H : (((spec_l01Next.f K a0_0 a0_1 a0_2 14).bind fun (t4, t5, t6) => (if (t4 == 0) = true then ((spec_l01Pick.f K a0_0 t5 t6 ([(-1), wrap64 (a1 + 1), 1099511627776, (-4611686018427387904)])).bind fun (t17, t18, t19) => some (t17, t18, t19)) else ((spec_l01Next.f K a0_0 t5 t6 (wrap64 (a1 + 1))).bind fun (t27, t28, t29) => some (t27, t28, t29)))) : Option (Int × Int × Int)) = some (r0, r1, r2) := h
 clear h
 replace H := Option.bind_eq_some_iff.mp H
 obtain ⟨⟨t4, t5, t6⟩, A7, H⟩ := H
 replace A7 := Aside0.mk A7
 try dsimp only at H
 have ltba0 := Aside0.mk ha0.lt
 go_enter Try.func107, Try.ntmps107
 refine wp_hide (fun Qf hQf => ?_)
 refine wp_seq_k (fun K1 hK1 => ?_)
 refine wp_region_lit ?_
 refine wpp fun K_ h_ => ?_; go_simp; refine h_ _ _ ?_; clear h_ K_
 refine wpList_nil ?_
 (try simp only [Exit.then, Exit.inBlock, ↓reduceIte, Nat.reduceEqDiff])
 refine hK1 _ _ ?_
 refine wp_seq_k (fun K2 hK2 => ?_)
 refine wp_seq_k (fun K3 hK3 => ?_)
 refine wp_region_lit ?_
 refine wpp fun K_ h_ => ?_; go_simp; refine h_ _ _ ?_; clear h_ K_
 refine step_call (wanted_none rfl) (by go_simp <;> rfl) (spec_l01Next.calls K ba0 a0_0_A a0_0_c a0_0 a0_1 a0_2 14 t4 t5 t6 w ha0 ha0_0 haa0_0 A7.out) ?_
 rintro e w8 ⟨rfl, h9, hs⟩
 have hs10 := Aside0.mk hs
 clear hs
 have h11 := ha0_0.growp hs10.out haa0_0
 refine ⟨_, rfl, ?_⟩
 simp only [Act.put, nm1, nm2, nm3, i64_w]
 refine wpp fun K_ h_ => ?_; go_simp; refine h_ _ _ ?_; clear h_ K_
 refine wpList_nil ?_
 (try simp only [Exit.then, Exit.inBlock, ↓reduceIte, Nat.reduceEqDiff])
 refine hK3 _ _ ?_
 by_cases c12 : (t4 == 0) = true
 rotate_left
 ·
  rw [if_neg c12] at H; replace c12 := Bool.eq_false_iff.mpr c12
  have c12n : (t4 != 0) = true := by rw [bne, c12]; rfl
  have c12p : ¬ t4 = 0 := fun e => by simp [e] at c12
  replace H := Option.bind_eq_some_iff.mp H
  obtain ⟨⟨t27, t28, t29⟩, A30, H⟩ := H
  replace A30 := Aside0.mk A30
  try dsimp only at H
  simp only [Option.some.injEq, Prod.mk.injEq] at H
  obtain ⟨rfl, rfl, rfl⟩ := H
  try simp only [c12, c12n, Bool.not_true, Bool.not_false]
  refine wp_cond_false rfl ?_
  refine wp_skip ?_
  (try simp only [Exit.then, Exit.inBlock, ↓reduceIte, Nat.reduceEqDiff])
  refine hK2 _ _ ?_
  refine wp_seq_k (fun K26 hK26 => ?_)
  refine wp_region_lit ?_
  refine wpp fun K_ h_ => ?_; go_simp; refine h_ _ _ ?_; clear h_ K_
  refine wpp fun K_ h_ => ?_; go_simp; refine h_ _ _ ?_; clear h_ K_
  refine wpp fun K_ h_ => ?_; go_simp; refine h_ _ _ ?_; clear h_ K_
  refine step_call (wanted_none rfl) (by go_simp <;> rfl) (spec_l01Next.calls K ba0 a0_0_A a0_0_c a0_0 t5 t6 (wrap64 (a1 + 1)) t27 t28 t29 w8 h9 h11 haa0_0 A30.out) ?_
  rintro e w31 ⟨rfl, h32, hs⟩
  have hs33 := Aside0.mk hs
  clear hs
  have h34 := h11.growp hs33.out haa0_0
  refine ⟨_, rfl, ?_⟩
  simp only [Act.put, nm1, nm2, nm3, i64_w]
  refine wpp fun K_ h_ => ?_; go_simp; refine h_ _ _ ?_; clear h_ K_
  refine wpList_nil ?_
  (try simp only [Exit.then, Exit.inBlock, ↓reduceIte, Nat.reduceEqDiff])
  refine hK26 _ _ ?_
  refine wp_ret ?_
  (try simp only [Exit.then, Exit.inBlock, ↓reduceIte, Nat.reduceEqDiff])
  refine hQf _ _ _ ?_
  exact bodyPost_ret (v := .int .i64 t27) (by first | rfl | (simp [results, Try.results107, go_sem]; done) | (simp [results, Try.results107, go_sem]; rfl)) rfl ⟨rfl, h32, (((Grow.refl (.pointer (some ⟨ba0, 0, none⟩)) _).trans hs10.out).trans hs33.out)⟩
 rw [if_pos c12] at H
 have c12n : (t4 != 0) = false := by rw [bne, c12]; rfl
 replace H := Option.bind_eq_some_iff.mp H
 obtain ⟨⟨t17, t18, t19⟩, A20, H⟩ := H
 replace A20 := Aside0.mk A20
 try dsimp only at H
 simp only [Option.some.injEq, Prod.mk.injEq] at H
 obtain ⟨rfl, rfl, rfl⟩ := H
 try simp only [c12, c12n, Bool.not_true, Bool.not_false]
 refine wp_cond_true rfl ?_
 refine wp_seq_k (fun K13 hK13 => ?_)
 refine wp_region_lit ?_
 refine wpp fun K_ h_ => ?_; go_simp; refine h_ _ _ ?_; clear h_ K_
 refine wpp fun K_ h_ => ?_; go_simp; refine h_ _ _ ?_; clear h_ K_
 refine wpp fun K_ h_ => ?_; go_simp; refine h_ _ _ ?_; clear h_ K_
 refine step_new (cs := [.int .i64 (-1), .int .i64 (wrap64 (a1 + 1)), .int .i64 1099511627776, .int .i64 (-4611686018427387904)]) (T := 2) (f := fun b => .slice (some ⟨b, 0, none⟩) 4 4) rfl (by go_simp <;> rfl) ?_
 intro b14 w15 hu lb hb14
 simp only [Act.put, nm1, nm2, nm3, i64_w]
 have lbb14 := Aside0.mk lb
 have ltb14 := Aside0.mk hb14.lt
 clear lb
 have hu16 := Aside0.mk hu
 clear hu
 refine step_call (wanted_none rfl) (by go_simp <;> rfl) (spec_l01Pick.calls K ba0 a0_0_A a0_0_c a0_0 t5 t6 (some ⟨b14, 0, none⟩) 4 ([(-1), wrap64 (a1 + 1), 1099511627776, (-4611686018427387904)]) t17 t18 t19 w15 (h9.up hu16.out) (h11.up hu16.out) haa0_0 (Rd.of_blk (E := eI) (xs := [(-1), wrap64 (a1 + 1), 1099511627776, (-4611686018427387904)]) (o := 0) hb14 (by simp) (fun j u hu => by rcases j with _ | _ | _ | _ | j <;> simp_all [Enc.flat, eI])) (fun k hk hp e => (Ne.symm (Nat.ne_of_lt (Nat.lt_of_lt_of_le (Nat.lt_of_lt_of_le ltba0.out (hs10.out.size)) lbb14.out))) ((Option.some.inj hk).trans e)) A20.out) ?_
 rintro e w21 ⟨rfl, h22, hs⟩
 have hs23 := Aside0.mk hs
 clear hs
 have h24 := (h11.up hu16.out).growp hs23.out haa0_0
 have h25 := hb14.grow hs23.out (fun k hk e => (Nat.ne_of_lt (Nat.lt_of_lt_of_le (Nat.lt_of_lt_of_le ltba0.out (hs10.out.size)) lbb14.out)) ((Option.some.inj hk).trans e))
 refine ⟨_, rfl, ?_⟩
 simp only [Act.put, nm1, nm2, nm3, i64_w]
 refine wpp fun K_ h_ => ?_; go_simp; refine h_ _ _ ?_; clear h_ K_
 refine wpList_nil ?_
 (try simp only [Exit.then, Exit.inBlock, ↓reduceIte, Nat.reduceEqDiff])
 refine hK13 _ _ ?_
 refine wp_ret ?_
 (try simp only [Exit.then, Exit.inBlock, ↓reduceIte, Nat.reduceEqDiff])
 refine hQf _ _ _ ?_
 exact bodyPost_ret (v := .int .i64 t17) (by first | rfl | (simp [results, Try.results107, go_sem]; done) | (simp [results, Try.results107, go_sem]; rfl)) rfl ⟨rfl, h22, ((((Grow.refl (.pointer (some ⟨ba0, 0, none⟩)) _).trans hs10.out).trans (Grow.up hu16.out)).trans hs23.out)⟩

set_option maxHeartbeats 40000000 in
set_option maxRecDepth 100000 in
theorem spec_l01BadField.calls (K : Nat) (ba0 : Nat) (a0_0_A : Option Addr) (a0_0_c : Nat) (a0_0 : List (Int)) (a0_1 : Int) (a0_2 : Int) (a1 : Int) (r0 : Int) (r1 : Int) (r2 : Int) (w : World) (ha0 : Blk w ba0 [.slice a0_0_A a0_0.length a0_0_c, .int .i64 a0_1, .int .u64 a0_2] 158) (ha0_0 : Rd eU8 w a0_0_A a0_0) (haa0_0 : ∀ k, blk (.slice a0_0_A a0_0.length a0_0_c) = some k → 0 < a0_0.length → k ≠ ba0) (h : spec_l01BadField.f K a0_0 a0_1 a0_2 a1 = some (r0, r1, r2)) :
    Calls Try.prog 108 #[.pointer (some ⟨ba0, 0, none⟩), .int .i64 a1] w fun e w' => e = .returned (.int .i64 r0) ∧ Blk w' ba0 [.slice a0_0_A a0_0.length a0_0_c, .int .i64 r1, .int .u64 r2] 158 ∧ Grow (.pointer (some ⟨ba0, 0, none⟩)) w w' := by
 have H : (((spec_l01Next.f K a0_0 a0_1 a0_2 40).bind fun (t4, t5, t6) => (if (t4 == 0) = true then ((spec_l01Pick.f K a0_0 t5 t6 ([2, 1, 0, (-3), 9, 15, 37, 1099511627776])).bind fun (t17, t18, t19) => some (t17, t18, t19)) else some (a1, t5, t6))) : Option (Int × Int × Int)) = some (r0, r1, r2) := h
 clear h
 replace H := Option.bind_eq_some_iff.mp H
 obtain ⟨⟨t4, t5, t6⟩, A7, H⟩ := H
 replace A7 := Aside0.mk A7
 try dsimp only at H
 have ltba0 := Aside0.mk ha0.lt
 go_enter Try.func108, Try.ntmps108
 refine wp_hide (fun Qf hQf => ?_)
 refine wp_seq_k (fun K1 hK1 => ?_)
 refine wp_region_lit ?_
 refine wpp fun K_ h_ => ?_; go_simp; refine h_ _ _ ?_; clear h_ K_
 refine wpList_nil ?_
 (try simp only [Exit.then, Exit.inBlock, ↓reduceIte, Nat.reduceEqDiff])
 refine hK1 _ _ ?_
 refine wp_seq_k (fun K2 hK2 => ?_)
 refine wp_seq_k (fun K3 hK3 => ?_)
 refine wp_region_lit ?_
 refine wpp fun K_ h_ => ?_; go_simp; refine h_ _ _ ?_; clear h_ K_
 refine step_call (wanted_none rfl) (by go_simp <;> rfl) (spec_l01Next.calls K ba0 a0_0_A a0_0_c a0_0 a0_1 a0_2 40 t4 t5 t6 w ha0 ha0_0 haa0_0 A7.out) ?_
 rintro e w8 ⟨rfl, h9, hs⟩
 have hs10 := Aside0.mk hs
 clear hs
 have h11 := ha0_0.growp hs10.out haa0_0
 refine ⟨_, rfl, ?_⟩
 simp only [Act.put, nm1, nm2, nm3, i64_w]
 refine wpp fun K_ h_ => ?_; go_simp; refine h_ _ _ ?_; clear h_ K_
 refine wpList_nil ?_
 (try simp only [Exit.then, Exit.inBlock, ↓reduceIte, Nat.reduceEqDiff])
 refine hK3 _ _ ?_
 by_cases c12 : (t4 == 0) = true
 rotate_left
 ·
  rw [if_neg c12] at H; replace c12 := Bool.eq_false_iff.mpr c12
  have c12n : (t4 != 0) = true := by rw [bne, c12]; rfl
  have c12p : ¬ t4 = 0 := fun e => by simp [e] at c12
  simp only [Option.some.injEq, Prod.mk.injEq] at H
  obtain ⟨rfl, rfl, rfl⟩ := H
  try simp only [c12, c12n, Bool.not_true, Bool.not_false]
  refine wp_cond_false rfl ?_
  refine wp_skip ?_
  (try simp only [Exit.then, Exit.inBlock, ↓reduceIte, Nat.reduceEqDiff])
  refine hK2 _ _ ?_
  refine wp_seq_k (fun K26 hK26 => ?_)
  refine wp_region_lit ?_
  refine wpp fun K_ h_ => ?_; go_simp; refine h_ _ _ ?_; clear h_ K_
  refine wpp fun K_ h_ => ?_; go_simp; refine h_ _ _ ?_; clear h_ K_
  refine wpList_nil ?_
  (try simp only [Exit.then, Exit.inBlock, ↓reduceIte, Nat.reduceEqDiff])
  refine hK26 _ _ ?_
  refine wp_ret ?_
  (try simp only [Exit.then, Exit.inBlock, ↓reduceIte, Nat.reduceEqDiff])
  refine hQf _ _ _ ?_
  exact bodyPost_ret (v := .int .i64 a1) (by first | rfl | (simp [results, Try.results108, go_sem]; done) | (simp [results, Try.results108, go_sem]; rfl)) rfl ⟨rfl, h9, ((Grow.refl (.pointer (some ⟨ba0, 0, none⟩)) _).trans hs10.out)⟩
 rw [if_pos c12] at H
 have c12n : (t4 != 0) = false := by rw [bne, c12]; rfl
 replace H := Option.bind_eq_some_iff.mp H
 obtain ⟨⟨t17, t18, t19⟩, A20, H⟩ := H
 replace A20 := Aside0.mk A20
 try dsimp only at H
 simp only [Option.some.injEq, Prod.mk.injEq] at H
 obtain ⟨rfl, rfl, rfl⟩ := H
 try simp only [c12, c12n, Bool.not_true, Bool.not_false]
 refine wp_cond_true rfl ?_
 refine wp_seq_k (fun K13 hK13 => ?_)
 refine wp_region_lit ?_
 refine wpp fun K_ h_ => ?_; go_simp; refine h_ _ _ ?_; clear h_ K_
 refine step_new (cs := [.int .i64 2, .int .i64 1, .int .i64 0, .int .i64 (-3), .int .i64 9, .int .i64 15, .int .i64 37, .int .i64 1099511627776]) (T := 2) (f := fun b => .slice (some ⟨b, 0, none⟩) 8 8) rfl (by go_simp <;> rfl) ?_
 intro b14 w15 hu lb hb14
 simp only [Act.put, nm1, nm2, nm3, i64_w]
 have lbb14 := Aside0.mk lb
 have ltb14 := Aside0.mk hb14.lt
 clear lb
 have hu16 := Aside0.mk hu
 clear hu
 refine step_call (wanted_none rfl) (by go_simp <;> rfl) (spec_l01Pick.calls K ba0 a0_0_A a0_0_c a0_0 t5 t6 (some ⟨b14, 0, none⟩) 8 ([2, 1, 0, (-3), 9, 15, 37, 1099511627776]) t17 t18 t19 w15 (h9.up hu16.out) (h11.up hu16.out) haa0_0 (Rd.of_blk (E := eI) (xs := [2, 1, 0, (-3), 9, 15, 37, 1099511627776]) (o := 0) hb14 (by simp) (fun j u hu => by rcases j with _ | _ | _ | _ | _ | _ | _ | _ | j <;> simp_all [Enc.flat, eI])) (fun k hk hp e => (Ne.symm (Nat.ne_of_lt (Nat.lt_of_lt_of_le (Nat.lt_of_lt_of_le ltba0.out (hs10.out.size)) lbb14.out))) ((Option.some.inj hk).trans e)) A20.out) ?_
 rintro e w21 ⟨rfl, h22, hs⟩
 have hs23 := Aside0.mk hs
 clear hs
 have h24 := (h11.up hu16.out).growp hs23.out haa0_0
 have h25 := hb14.grow hs23.out (fun k hk e => (Nat.ne_of_lt (Nat.lt_of_lt_of_le (Nat.lt_of_lt_of_le ltba0.out (hs10.out.size)) lbb14.out)) ((Option.some.inj hk).trans e))
 refine ⟨_, rfl, ?_⟩
 simp only [Act.put, nm1, nm2, nm3, i64_w]
 refine wpp fun K_ h_ => ?_; go_simp; refine h_ _ _ ?_; clear h_ K_
 refine wpList_nil ?_
 (try simp only [Exit.then, Exit.inBlock, ↓reduceIte, Nat.reduceEqDiff])
 refine hK13 _ _ ?_
 refine wp_ret ?_
 (try simp only [Exit.then, Exit.inBlock, ↓reduceIte, Nat.reduceEqDiff])
 refine hQf _ _ _ ?_
 exact bodyPost_ret (v := .int .i64 t17) (by first | rfl | (simp [results, Try.results108, go_sem]; done) | (simp [results, Try.results108, go_sem]; rfl)) rfl ⟨rfl, h22, ((((Grow.refl (.pointer (some ⟨ba0, 0, none⟩)) _).trans hs10.out).trans (Grow.up hu16.out)).trans hs23.out)⟩

set_option maxHeartbeats 40000000 in
set_option maxRecDepth 100000 in
theorem spec_l05Draw.calls (K : Nat) (a0_A : Option Addr) (a0_c : Nat) (a0 : List (Int)) (r0 : Int) (r1 : Int) (r2 : Int) (w : World) (ha0 : Rd eU8 w a0_A a0) (h : spec_l05Draw.f K a0 = some (r0, r1, r2)) :
    Calls Try.prog 90 #[.slice a0_A a0.length a0_c] w fun e w' => e = .returned (.tuple #[.int .i64 r0, .int .i64 r1, .int .i64 r2]) ∧ Up w w' := by
 have H : (((spec_l01From.f K a0).bind fun (t4, t5) => ((spec_l01DrawField.f K a0 t4 t5).bind fun (t10, t11, t12) => ((spec_l01Near.f K a0 t11 t12 40).bind fun (t18, t19, t20) => ((spec_l01Pick.f K a0 t19 t20 ([0, 1, 2, 3, 4, 5, 6, 7, 12, wrap64 (t10 - 1), t10, wrap64 (t10 + 1), t18, 1000, 1001])).bind fun (t28, t29, t30) => ((spec_l01Near.f K a0 t29 t30 (wrap64 (t10 - 1))).bind fun (t37, t38, t39) => ((spec_l01BadField.f K a0 t38 t39 t10).bind fun (t46, t47, t48) => some (t46, t28, t37))))))) : Option (Int × Int × Int)) = some (r0, r1, r2) := h
 clear h
 replace H := Option.bind_eq_some_iff.mp H
 obtain ⟨⟨t4, t5⟩, A6, H⟩ := H
 replace A6 := Aside0.mk A6
 try dsimp only at H
 replace H := Option.bind_eq_some_iff.mp H
 obtain ⟨⟨t10, t11, t12⟩, A13, H⟩ := H
 replace A13 := Aside0.mk A13
 try dsimp only at H
 replace H := Option.bind_eq_some_iff.mp H
 obtain ⟨⟨t18, t19, t20⟩, A21, H⟩ := H
 replace A21 := Aside0.mk A21
 try dsimp only at H
 replace H := Option.bind_eq_some_iff.mp H
 obtain ⟨⟨t28, t29, t30⟩, A31, H⟩ := H
 replace A31 := Aside0.mk A31
 try dsimp only at H
 replace H := Option.bind_eq_some_iff.mp H
 obtain ⟨⟨t37, t38, t39⟩, A40, H⟩ := H
 replace A40 := Aside0.mk A40
 try dsimp only at H
 replace H := Option.bind_eq_some_iff.mp H
 obtain ⟨⟨t46, t47, t48⟩, A49, H⟩ := H
 replace A49 := Aside0.mk A49
 try dsimp only at H
 simp only [Option.some.injEq, Prod.mk.injEq] at H
 obtain ⟨rfl, rfl, rfl⟩ := H
 go_enter Try.func90, Try.ntmps90
 refine wp_hide (fun Qf hQf => ?_)
 refine wp_seq_k (fun K1 hK1 => ?_)
 refine wp_region_lit ?_
 refine wpp fun K_ h_ => ?_; go_simp; refine h_ _ _ ?_; clear h_ K_
 refine wpp fun K_ h_ => ?_; go_simp; refine h_ _ _ ?_; clear h_ K_
 refine wpp fun K_ h_ => ?_; go_simp; refine h_ _ _ ?_; clear h_ K_
 refine wpList_nil ?_
 (try simp only [Exit.then, Exit.inBlock, ↓reduceIte, Nat.reduceEqDiff])
 refine hK1 _ _ ?_
 refine wp_seq_k (fun K2 hK2 => ?_)
 refine wp_region_lit ?_
 refine wpp fun K_ h_ => ?_; go_simp; refine h_ _ _ ?_; clear h_ K_
 refine step_call (wanted_none rfl) (by go_simp <;> rfl) (spec_l01From.calls K a0_A a0_c a0 t4 t5 w ha0 A6.out) ?_
 rintro e w7 ⟨b3, rfl, hb3, lb, hu⟩
 have lbb3 := lb
 have ltb3 := Aside0.mk hb3.lt
 clear lb
 have hu8 := Aside0.mk hu
 clear hu
 refine ⟨_, rfl, ?_⟩
 simp only [Act.put, nm1, nm2, nm3, i64_w]
 refine wpp fun K_ h_ => ?_; go_simp; refine h_ _ _ ?_; clear h_ K_
 refine wpList_nil ?_
 (try simp only [Exit.then, Exit.inBlock, ↓reduceIte, Nat.reduceEqDiff])
 refine hK2 _ _ ?_
 refine wp_seq_k (fun K9 hK9 => ?_)
 refine wp_region_lit ?_
 refine wpp fun K_ h_ => ?_; go_simp; refine h_ _ _ ?_; clear h_ K_
 refine step_call (wanted_none rfl) (by go_simp <;> rfl) (spec_l01DrawField.calls K b3 a0_A a0_c a0 t4 t5 t10 t11 t12 w7 hb3 (ha0.up hu8.out) (fun k hk hp => Nat.ne_of_lt (Nat.lt_of_lt_of_le (ha0.blk_lt hp k hk) lbb3.out)) A13.out) ?_
 rintro e w14 ⟨rfl, h15, hs⟩
 have hs16 := Aside0.mk hs
 clear hs
 refine ⟨_, rfl, ?_⟩
 simp only [Act.put, nm1, nm2, nm3, i64_w]
 refine wpp fun K_ h_ => ?_; go_simp; refine h_ _ _ ?_; clear h_ K_
 refine wpList_nil ?_
 (try simp only [Exit.then, Exit.inBlock, ↓reduceIte, Nat.reduceEqDiff])
 refine hK9 _ _ ?_
 refine wp_seq_k (fun K17 hK17 => ?_)
 refine wp_region_lit ?_
 refine wpp fun K_ h_ => ?_; go_simp; refine h_ _ _ ?_; clear h_ K_
 refine wpp fun K_ h_ => ?_; go_simp; refine h_ _ _ ?_; clear h_ K_
 refine wpp fun K_ h_ => ?_; go_simp; refine h_ _ _ ?_; clear h_ K_
 refine wpp fun K_ h_ => ?_; go_simp; refine h_ _ _ ?_; clear h_ K_
 refine wpp fun K_ h_ => ?_; go_simp; refine h_ _ _ ?_; clear h_ K_
 refine wpp fun K_ h_ => ?_; go_simp; refine h_ _ _ ?_; clear h_ K_
 refine wpp fun K_ h_ => ?_; go_simp; refine h_ _ _ ?_; clear h_ K_
 refine step_call (wanted_none rfl) (by go_simp <;> rfl) (spec_l01Near.calls K b3 a0_A a0_c a0 t11 t12 40 t18 t19 t20 w14 h15 (ha0.up (hu8.out.grow hs16.out (fun k hk => Nat.le_trans (Nat.le_refl _) ((fun k hk => Nat.le_trans lbb3.out (Nat.le_of_eq (Option.some.inj hk))) k hk)))) (fun k hk hp => Nat.ne_of_lt (Nat.lt_of_lt_of_le (ha0.blk_lt hp k hk) lbb3.out)) A21.out) ?_
 rintro e w22 ⟨rfl, h23, hs⟩
 have hs24 := Aside0.mk hs
 clear hs
 refine ⟨_, rfl, ?_⟩
 simp only [Act.put, nm1, nm2, nm3, i64_w]
 refine step_new (cs := [.int .i64 0, .int .i64 1, .int .i64 2, .int .i64 3, .int .i64 4, .int .i64 5, .int .i64 6, .int .i64 7, .int .i64 12, .int .i64 (wrap64 (t10 - 1)), .int .i64 t10, .int .i64 (wrap64 (t10 + 1)), .int .i64 t18, .int .i64 1000, .int .i64 1001]) (T := 2) (f := fun b => .slice (some ⟨b, 0, none⟩) 15 15) rfl (by go_simp <;> rfl) ?_
 intro b25 w26 hu lb hb25
 simp only [Act.put, nm1, nm2, nm3, i64_w]
 have lbb25 := Aside0.mk lb
 have ltb25 := Aside0.mk hb25.lt
 clear lb
 have hu27 := Aside0.mk hu
 clear hu
 refine step_call (wanted_none rfl) (by go_simp <;> rfl) (spec_l01Pick.calls K b3 a0_A a0_c a0 t19 t20 (some ⟨b25, 0, none⟩) 15 ([0, 1, 2, 3, 4, 5, 6, 7, 12, wrap64 (t10 - 1), t10, wrap64 (t10 + 1), t18, 1000, 1001]) t28 t29 t30 w26 (h23.up hu27.out) (ha0.up (((hu8.out.grow hs16.out (fun k hk => Nat.le_trans (Nat.le_refl _) ((fun k hk => Nat.le_trans lbb3.out (Nat.le_of_eq (Option.some.inj hk))) k hk))).grow hs24.out (fun k hk => Nat.le_trans (Nat.le_refl _) ((fun k hk => Nat.le_trans lbb3.out (Nat.le_of_eq (Option.some.inj hk))) k hk))).trans hu27.out)) (fun k hk hp => Nat.ne_of_lt (Nat.lt_of_lt_of_le (ha0.blk_lt hp k hk) lbb3.out)) (Rd.of_blk (E := eI) (xs := [0, 1, 2, 3, 4, 5, 6, 7, 12, wrap64 (t10 - 1), t10, wrap64 (t10 + 1), t18, 1000, 1001]) (o := 0) hb25 (by simp) (fun j u hu => by rcases j with j <;> simp_all [Enc.flat, eI])) (fun k hk hp e => (Ne.symm (Nat.ne_of_lt (Nat.lt_of_lt_of_le (Nat.lt_of_lt_of_le ltb3.out ((Nat.le_trans (hs16.out.size) hs24.out.size))) lbb25.out))) ((Option.some.inj hk).trans e)) A31.out) ?_
 rintro e w32 ⟨rfl, h33, hs⟩
 have hs34 := Aside0.mk hs
 clear hs
 have h35 := hb25.grow hs34.out (fun k hk e => (Nat.ne_of_lt (Nat.lt_of_lt_of_le (Nat.lt_of_lt_of_le ltb3.out ((Nat.le_trans (hs16.out.size) hs24.out.size))) lbb25.out)) ((Option.some.inj hk).trans e))
 refine ⟨_, rfl, ?_⟩
 simp only [Act.put, nm1, nm2, nm3, i64_w]
 refine wpp fun K_ h_ => ?_; go_simp; refine h_ _ _ ?_; clear h_ K_
 refine wpList_nil ?_
 (try simp only [Exit.then, Exit.inBlock, ↓reduceIte, Nat.reduceEqDiff])
 refine hK17 _ _ ?_
 refine wp_seq_k (fun K36 hK36 => ?_)
 refine wp_region_lit ?_
 refine wpp fun K_ h_ => ?_; go_simp; refine h_ _ _ ?_; clear h_ K_
 refine wpp fun K_ h_ => ?_; go_simp; refine h_ _ _ ?_; clear h_ K_
 refine wpp fun K_ h_ => ?_; go_simp; refine h_ _ _ ?_; clear h_ K_
 refine step_call (wanted_none rfl) (by go_simp <;> rfl) (spec_l01Near.calls K b3 a0_A a0_c a0 t29 t30 (wrap64 (t10 - 1)) t37 t38 t39 w32 h33 (ha0.up ((((hu8.out.grow hs16.out (fun k hk => Nat.le_trans (Nat.le_refl _) ((fun k hk => Nat.le_trans lbb3.out (Nat.le_of_eq (Option.some.inj hk))) k hk))).grow hs24.out (fun k hk => Nat.le_trans (Nat.le_refl _) ((fun k hk => Nat.le_trans lbb3.out (Nat.le_of_eq (Option.some.inj hk))) k hk))).trans hu27.out).grow hs34.out (fun k hk => Nat.le_trans (Nat.le_refl _) ((fun k hk => Nat.le_trans lbb3.out (Nat.le_of_eq (Option.some.inj hk))) k hk)))) (fun k hk hp => Nat.ne_of_lt (Nat.lt_of_lt_of_le (ha0.blk_lt hp k hk) lbb3.out)) A40.out) ?_
 rintro e w41 ⟨rfl, h42, hs⟩
 have hs43 := Aside0.mk hs
 clear hs
 have h44 := h35.grow hs43.out (fun k hk e => (Nat.ne_of_lt (Nat.lt_of_lt_of_le (Nat.lt_of_lt_of_le ltb3.out ((Nat.le_trans (hs16.out.size) hs24.out.size))) lbb25.out)) ((Option.some.inj hk).trans e))
 refine ⟨_, rfl, ?_⟩
 simp only [Act.put, nm1, nm2, nm3, i64_w]
 refine wpp fun K_ h_ => ?_; go_simp; refine h_ _ _ ?_; clear h_ K_
 refine wpList_nil ?_
 (try simp only [Exit.then, Exit.inBlock, ↓reduceIte, Nat.reduceEqDiff])
 refine hK36 _ _ ?_
 refine wp_seq_k (fun K45 hK45 => ?_)
 refine wp_region_lit ?_
 refine wpp fun K_ h_ => ?_; go_simp; refine h_ _ _ ?_; clear h_ K_
 refine wpp fun K_ h_ => ?_; go_simp; refine h_ _ _ ?_; clear h_ K_
 refine step_call (wanted_none rfl) (by go_simp <;> rfl) (spec_l01BadField.calls K b3 a0_A a0_c a0 t38 t39 t10 t46 t47 t48 w41 h42 (ha0.up (((((hu8.out.grow hs16.out (fun k hk => Nat.le_trans (Nat.le_refl _) ((fun k hk => Nat.le_trans lbb3.out (Nat.le_of_eq (Option.some.inj hk))) k hk))).grow hs24.out (fun k hk => Nat.le_trans (Nat.le_refl _) ((fun k hk => Nat.le_trans lbb3.out (Nat.le_of_eq (Option.some.inj hk))) k hk))).trans hu27.out).grow hs34.out (fun k hk => Nat.le_trans (Nat.le_refl _) ((fun k hk => Nat.le_trans lbb3.out (Nat.le_of_eq (Option.some.inj hk))) k hk))).grow hs43.out (fun k hk => Nat.le_trans (Nat.le_refl _) ((fun k hk => Nat.le_trans lbb3.out (Nat.le_of_eq (Option.some.inj hk))) k hk)))) (fun k hk hp => Nat.ne_of_lt (Nat.lt_of_lt_of_le (ha0.blk_lt hp k hk) lbb3.out)) A49.out) ?_
 rintro e w50 ⟨rfl, h51, hs⟩
 have hs52 := Aside0.mk hs
 clear hs
 have h53 := h44.grow hs52.out (fun k hk e => (Nat.ne_of_lt (Nat.lt_of_lt_of_le (Nat.lt_of_lt_of_le ltb3.out ((Nat.le_trans (hs16.out.size) hs24.out.size))) lbb25.out)) ((Option.some.inj hk).trans e))
 refine ⟨_, rfl, ?_⟩
 simp only [Act.put, nm1, nm2, nm3, i64_w]
 refine wpp fun K_ h_ => ?_; go_simp; refine h_ _ _ ?_; clear h_ K_
 refine wpp fun K_ h_ => ?_; go_simp; refine h_ _ _ ?_; clear h_ K_
 refine wpp fun K_ h_ => ?_; go_simp; refine h_ _ _ ?_; clear h_ K_
 refine wpp fun K_ h_ => ?_; go_simp; refine h_ _ _ ?_; clear h_ K_
 refine wpp fun K_ h_ => ?_; go_simp; refine h_ _ _ ?_; clear h_ K_
 refine wpList_nil ?_
 (try simp only [Exit.then, Exit.inBlock, ↓reduceIte, Nat.reduceEqDiff])
 refine hK45 _ _ ?_
 refine wp_ret ?_
 (try simp only [Exit.then, Exit.inBlock, ↓reduceIte, Nat.reduceEqDiff])
 refine hQf _ _ _ ?_
 exact bodyPost_ret (v := .tuple #[.int .i64 t46, .int .i64 t28, .int .i64 t37]) (by first | rfl | (simp [results, Try.results90, go_sem]; done) | (simp [results, Try.results90, go_sem]; rfl)) rfl ⟨rfl, ((((((hu8.out.grow hs16.out (fun k hk => Nat.le_trans (Nat.le_refl _) ((fun k hk => Nat.le_trans lbb3.out (Nat.le_of_eq (Option.some.inj hk))) k hk))).grow hs24.out (fun k hk => Nat.le_trans (Nat.le_refl _) ((fun k hk => Nat.le_trans lbb3.out (Nat.le_of_eq (Option.some.inj hk))) k hk))).trans hu27.out).grow hs34.out (fun k hk => Nat.le_trans (Nat.le_refl _) ((fun k hk => Nat.le_trans lbb3.out (Nat.le_of_eq (Option.some.inj hk))) k hk))).grow hs43.out (fun k hk => Nat.le_trans (Nat.le_refl _) ((fun k hk => Nat.le_trans lbb3.out (Nat.le_of_eq (Option.some.inj hk))) k hk))).grow hs52.out (fun k hk => Nat.le_trans (Nat.le_refl _) ((fun k hk => Nat.le_trans lbb3.out (Nat.le_of_eq (Option.some.inj hk))) k hk)))⟩

set_option maxHeartbeats 40000000 in
set_option maxRecDepth 100000 in
theorem spec_DrawSpreadPolynomial.calls (K : Nat) (a0_A : Option Addr) (a0_c : Nat) (a0 : List (Int)) (r0 : Int) (r1 : Int) (r2 : Int) (w : World) (ha0 : Rd eU8 w a0_A a0) (h : spec_DrawSpreadPolynomial.f K a0 = some (r0, r1, r2)) :
    Calls Try.prog 16 #[.slice a0_A a0.length a0_c] w fun e w' => e = .returned (.tuple #[.int .i64 r0, .int .i64 r1, .int .i64 r2]) ∧ Up w w' := by
 have H : (((spec_l05Draw.f K a0).bind fun (t3, t4, t5) => some (t3, t4, t5)) : Option (Int × Int × Int)) = some (r0, r1, r2) := h
 clear h
 replace H := Option.bind_eq_some_iff.mp H
 obtain ⟨⟨t3, t4, t5⟩, A6, H⟩ := H
 replace A6 := Aside0.mk A6
 try dsimp only at H
 simp only [Option.some.injEq, Prod.mk.injEq] at H
 obtain ⟨rfl, rfl, rfl⟩ := H
 go_enter Try.func16, Try.ntmps16
 refine wp_hide (fun Qf hQf => ?_)
 refine wp_seq_k (fun K1 hK1 => ?_)
 refine wp_region_lit ?_
 refine wpp fun K_ h_ => ?_; go_simp; refine h_ _ _ ?_; clear h_ K_
 refine wpp fun K_ h_ => ?_; go_simp; refine h_ _ _ ?_; clear h_ K_
 refine wpp fun K_ h_ => ?_; go_simp; refine h_ _ _ ?_; clear h_ K_
 refine wpList_nil ?_
 (try simp only [Exit.then, Exit.inBlock, ↓reduceIte, Nat.reduceEqDiff])
 refine hK1 _ _ ?_
 refine wp_seq_k (fun K2 hK2 => ?_)
 refine wp_region_lit ?_
 refine wpp fun K_ h_ => ?_; go_simp; refine h_ _ _ ?_; clear h_ K_
 refine step_call (wanted_none rfl) (by go_simp <;> rfl) (spec_l05Draw.calls K a0_A a0_c a0 t3 t4 t5 w ha0 A6.out) ?_
 rintro e w7 ⟨rfl, hu⟩
 have hu8 := Aside0.mk hu
 clear hu
 refine ⟨_, rfl, ?_⟩
 simp only [Act.put, nm1, nm2, nm3, i64_w]
 refine wpp fun K_ h_ => ?_; go_simp; refine h_ _ _ ?_; clear h_ K_
 refine wpp fun K_ h_ => ?_; go_simp; refine h_ _ _ ?_; clear h_ K_
 refine wpp fun K_ h_ => ?_; go_simp; refine h_ _ _ ?_; clear h_ K_
 refine wpp fun K_ h_ => ?_; go_simp; refine h_ _ _ ?_; clear h_ K_
 refine wpp fun K_ h_ => ?_; go_simp; refine h_ _ _ ?_; clear h_ K_
 refine wpp fun K_ h_ => ?_; go_simp; refine h_ _ _ ?_; clear h_ K_
 refine wpp fun K_ h_ => ?_; go_simp; refine h_ _ _ ?_; clear h_ K_
 refine wpList_nil ?_
 (try simp only [Exit.then, Exit.inBlock, ↓reduceIte, Nat.reduceEqDiff])
 refine hK2 _ _ ?_
 refine wp_seq_k (fun K9 hK9 => ?_)
 refine wp_region_lit ?_
 refine wpp fun K_ h_ => ?_; go_simp; refine h_ _ _ ?_; clear h_ K_
 refine wpp fun K_ h_ => ?_; go_simp; refine h_ _ _ ?_; clear h_ K_
 refine wpp fun K_ h_ => ?_; go_simp; refine h_ _ _ ?_; clear h_ K_
 refine wpp fun K_ h_ => ?_; go_simp; refine h_ _ _ ?_; clear h_ K_
 refine wpp fun K_ h_ => ?_; go_simp; refine h_ _ _ ?_; clear h_ K_
 refine wpp fun K_ h_ => ?_; go_simp; refine h_ _ _ ?_; clear h_ K_
 refine wpList_nil ?_
 (try simp only [Exit.then, Exit.inBlock, ↓reduceIte, Nat.reduceEqDiff])
 refine hK9 _ _ ?_
 refine wp_ret ?_
 (try simp only [Exit.then, Exit.inBlock, ↓reduceIte, Nat.reduceEqDiff])
 refine hQf _ _ _ ?_
 exact bodyPost_ret (v := .tuple #[.int .i64 t3, .int .i64 t4, .int .i64 t5]) (by first | rfl | (simp [results, Try.results16, go_sem]; done) | (simp [results, Try.results16, go_sem]; rfl)) rfl ⟨rfl, hu8.out⟩

set_option maxHeartbeats 40000000 in
set_option maxRecDepth 100000 in
theorem impl_IsField.calls (K : Nat) (a0 : Int) (r0 : Bool) (w : World)  (h : impl_IsField.f K a0 = some (r0)) :
    Calls Try.prog 170 #[.int .i64 a0] w fun e w' => e = .returned (.bool r0) ∧ Up w w' := by
 have H : ((if (a0 == 3) = true then some true else (if (a0 == 5) = true then some true else (if (a0 == 7) = true then some true else (if (a0 == 11) = true then some true else (if (a0 == 13) = true then some true else (if (a0 == 17) = true then some true else (if (a0 == 19) = true then some true else (if (a0 == 23) = true then some true else (if (a0 == 29) = true then some true else (if (a0 == 31) = true then some true else some false)))))))))) : Option (Bool)) = some (r0) := h
 clear h
 go_enter Try.func170, Try.ntmps170
 refine wp_hide (fun Qf hQf => ?_)
 refine wp_seq_k (fun K1 hK1 => ?_)
 refine wp_region_lit ?_
 refine wpp fun K_ h_ => ?_; go_simp; refine h_ _ _ ?_; clear h_ K_
 refine wpList_nil ?_
 (try simp only [Exit.then, Exit.inBlock, ↓reduceIte, Nat.reduceEqDiff])
 refine hK1 _ _ ?_
 refine wp_seq_k (fun K2 hK2 => ?_)
 refine wp_seq_k (fun K3 hK3 => ?_)
 refine wp_region_lit ?_
 refine wpp fun K_ h_ => ?_; go_simp; refine h_ _ _ ?_; clear h_ K_
 refine wpList_nil ?_
 (try simp only [Exit.then, Exit.inBlock, ↓reduceIte, Nat.reduceEqDiff])
 refine hK3 _ _ ?_
 refine wp_block ?_
 refine wp_seq_k (fun K4 hK4 => ?_)
 refine wp_seq_k (fun K5 hK5 => ?_)
 refine wp_region_lit ?_
 refine wpp fun K_ h_ => ?_; go_simp; refine h_ _ _ ?_; clear h_ K_
 refine wpp fun K_ h_ => ?_; go_simp; refine h_ _ _ ?_; clear h_ K_
 refine wpList_nil ?_
 (try simp only [Exit.then, Exit.inBlock, ↓reduceIte, Nat.reduceEqDiff])
 refine hK5 _ _ ?_
 by_cases c6 : (a0 == 3) = true
 ·
  rw [if_pos c6] at H
  have c6n : (a0 != 3) = false := by rw [bne, c6]; rfl
  obtain rfl := Option.some.inj H
  try simp only [c6, c6n, Bool.not_true, Bool.not_false]
  refine wp_cond_true rfl ?_
  refine wp_skip ?_
  (try simp only [Exit.then, Exit.inBlock, ↓reduceIte, Nat.reduceEqDiff])
  refine hK4 _ _ ?_
  refine wp_cond_true rfl ?_
  refine wp_seq_k (fun K7 hK7 => ?_)
  refine wp_region_lit ?_
  refine wpp fun K_ h_ => ?_; go_simp; refine h_ _ _ ?_; clear h_ K_
  refine wpList_nil ?_
  (try simp only [Exit.then, Exit.inBlock, ↓reduceIte, Nat.reduceEqDiff])
  refine hK7 _ _ ?_
  refine wp_ret ?_
  (try simp only [Exit.then, Exit.inBlock, ↓reduceIte, Nat.reduceEqDiff])
  refine hQf _ _ _ ?_
  exact bodyPost_ret (v := .bool true) (by first | rfl | (simp [results, Try.results170, go_sem]; done) | (simp [results, Try.results170, go_sem]; rfl)) rfl ⟨rfl, (Up.refl _)⟩
 rw [if_neg c6] at H; replace c6 := Bool.eq_false_iff.mpr c6
 have c6n : (a0 != 3) = true := by rw [bne, c6]; rfl
 have c6p : ¬ a0 = 3 := fun e => by simp [e] at c6
 try simp only [c6, c6n, Bool.not_true, Bool.not_false]
 refine wp_cond_false rfl ?_
 refine wp_seq_k (fun K8 hK8 => ?_)
 refine wp_region_lit ?_
 refine wpp fun K_ h_ => ?_; go_simp; refine h_ _ _ ?_; clear h_ K_
 refine wpp fun K_ h_ => ?_; go_simp; refine h_ _ _ ?_; clear h_ K_
 refine wpList_nil ?_
 (try simp only [Exit.then, Exit.inBlock, ↓reduceIte, Nat.reduceEqDiff])
 refine hK8 _ _ ?_
 by_cases c9 : (a0 == 5) = true
 ·
  rw [if_pos c9] at H
  have c9n : (a0 != 5) = false := by rw [bne, c9]; rfl
  obtain rfl := Option.some.inj H
  try simp only [c9, c9n, Bool.not_true, Bool.not_false]
  refine wp_cond_true rfl ?_
  refine wp_skip ?_
  (try simp only [Exit.then, Exit.inBlock, ↓reduceIte, Nat.reduceEqDiff])
  refine hK4 _ _ ?_
  refine wp_cond_true rfl ?_
  refine wp_seq_k (fun K10 hK10 => ?_)
  refine wp_region_lit ?_
  refine wpp fun K_ h_ => ?_; go_simp; refine h_ _ _ ?_; clear h_ K_
  refine wpList_nil ?_
  (try simp only [Exit.then, Exit.inBlock, ↓reduceIte, Nat.reduceEqDiff])
  refine hK10 _ _ ?_
  refine wp_ret ?_
  (try simp only [Exit.then, Exit.inBlock, ↓reduceIte, Nat.reduceEqDiff])
  refine hQf _ _ _ ?_
  exact bodyPost_ret (v := .bool true) (by first | rfl | (simp [results, Try.results170, go_sem]; done) | (simp [results, Try.results170, go_sem]; rfl)) rfl ⟨rfl, (Up.refl _)⟩
 rw [if_neg c9] at H; replace c9 := Bool.eq_false_iff.mpr c9
 have c9n : (a0 != 5) = true := by rw [bne, c9]; rfl
 have c9p : ¬ a0 = 5 := fun e => by simp [e] at c9
 try simp only [c9, c9n, Bool.not_true, Bool.not_false]
 refine wp_cond_false rfl ?_
 refine wp_seq_k (fun K11 hK11 => ?_)
 refine wp_region_lit ?_
 refine wpp fun K_ h_ => ?_; go_simp; refine h_ _ _ ?_; clear h_ K_
 refine wpp fun K_ h_ => ?_; go_simp; refine h_ _ _ ?_; clear h_ K_
 refine wpList_nil ?_
 (try simp only [Exit.then, Exit.inBlock, ↓reduceIte, Nat.reduceEqDiff])
 refine hK11 _ _ ?_
 by_cases c12 : (a0 == 7) = true
 ·
  rw [if_pos c12] at H
  have c12n : (a0 != 7) = false := by rw [bne, c12]; rfl
  obtain rfl := Option.some.inj H
  try simp only [c12, c12n, Bool.not_true, Bool.not_false]
  refine wp_cond_true rfl ?_
  refine wp_skip ?_
  (try simp only [Exit.then, Exit.inBlock, ↓reduceIte, Nat.reduceEqDiff])
  refine hK4 _ _ ?_
  refine wp_cond_true rfl ?_
  refine wp_seq_k (fun K13 hK13 => ?_)
  refine wp_region_lit ?_
  refine wpp fun K_ h_ => ?_; go_simp; refine h_ _ _ ?_; clear h_ K_
  refine wpList_nil ?_
  (try simp only [Exit.then, Exit.inBlock, ↓reduceIte, Nat.reduceEqDiff])
  refine hK13 _ _ ?_
  refine wp_ret ?_
  (try simp only [Exit.then, Exit.inBlock, ↓reduceIte, Nat.reduceEqDiff])
  refine hQf _ _ _ ?_
  exact bodyPost_ret (v := .bool true) (by first | rfl | (simp [results, Try.results170, go_sem]; done) | (simp [results, Try.results170, go_sem]; rfl)) rfl ⟨rfl, (Up.refl _)⟩
 rw [if_neg c12] at H; replace c12 := Bool.eq_false_iff.mpr c12
 have c12n : (a0 != 7) = true := by rw [bne, c12]; rfl
 have c12p : ¬ a0 = 7 := fun e => by simp [e] at c12
 try simp only [c12, c12n, Bool.not_true, Bool.not_false]
 refine wp_cond_false rfl ?_
 refine wp_seq_k (fun K14 hK14 => ?_)
 refine wp_region_lit ?_
 refine wpp fun K_ h_ => ?_; go_simp; refine h_ _ _ ?_; clear h_ K_
 refine wpp fun K_ h_ => ?_; go_simp; refine h_ _ _ ?_; clear h_ K_
 refine wpList_nil ?_
 (try simp only [Exit.then, Exit.inBlock, ↓reduceIte, Nat.reduceEqDiff])
 refine hK14 _ _ ?_
 by_cases c15 : (a0 == 11) = true
 ·
  rw [if_pos c15] at H
  have c15n : (a0 != 11) = false := by rw [bne, c15]; rfl
  obtain rfl := Option.some.inj H
  try simp only [c15, c15n, Bool.not_true, Bool.not_false]
  refine wp_cond_true rfl ?_
  refine wp_skip ?_
  (try simp only [Exit.then, Exit.inBlock, ↓reduceIte, Nat.reduceEqDiff])
  refine hK4 _ _ ?_
  refine wp_cond_true rfl ?_
  refine wp_seq_k (fun K16 hK16 => ?_)
  refine wp_region_lit ?_
  refine wpp fun K_ h_ => ?_; go_simp; refine h_ _ _ ?_; clear h_ K_
  refine wpList_nil ?_
  (try simp only [Exit.then, Exit.inBlock, ↓reduceIte, Nat.reduceEqDiff])
  refine hK16 _ _ ?_
  refine wp_ret ?_
  (try simp only [Exit.then, Exit.inBlock, ↓reduceIte, Nat.reduceEqDiff])
  refine hQf _ _ _ ?_
  exact bodyPost_ret (v := .bool true) (by first | rfl | (simp [results, Try.results170, go_sem]; done) | (simp [results, Try.results170, go_sem]; rfl)) rfl ⟨rfl, (Up.refl _)⟩
 rw [if_neg c15] at H; replace c15 := Bool.eq_false_iff.mpr c15
 have c15n : (a0 != 11) = true := by rw [bne, c15]; rfl
 have c15p : ¬ a0 = 11 := fun e => by simp [e] at c15
 try simp only [c15, c15n, Bool.not_true, Bool.not_false]
 refine wp_cond_false rfl ?_
 refine wp_seq_k (fun K17 hK17 => ?_)
 refine wp_region_lit ?_
 refine wpp fun K_ h_ => ?_; go_simp; refine h_ _ _ ?_; clear h_ K_
 refine wpp fun K_ h_ => ?_; go_simp; refine h_ _ _ ?_; clear h_ K_
 refine wpList_nil ?_
 (try simp only [Exit.then, Exit.inBlock, ↓reduceIte, Nat.reduceEqDiff])
 refine hK17 _ _ ?_
 by_cases c18 : (a0 == 13) = true
 ·
  rw [if_pos c18] at H
  have c18n : (a0 != 13) = false := by rw [bne, c18]; rfl
  obtain rfl := Option.some.inj H
  try simp only [c18, c18n, Bool.not_true, Bool.not_false]
  refine wp_cond_true rfl ?_
  refine wp_skip ?_
  (try simp only [Exit.then, Exit.inBlock, ↓reduceIte, Nat.reduceEqDiff])
  refine hK4 _ _ ?_
  refine wp_cond_true rfl ?_
  refine wp_seq_k (fun K19 hK19 => ?_)
  refine wp_region_lit ?_
  refine wpp fun K_ h_ => ?_; go_simp; refine h_ _ _ ?_; clear h_ K_
  refine wpList_nil ?_
  (try simp only [Exit.then, Exit.inBlock, ↓reduceIte, Nat.reduceEqDiff])
  refine hK19 _ _ ?_
  refine wp_ret ?_
  (try simp only [Exit.then, Exit.inBlock, ↓reduceIte, Nat.reduceEqDiff])
  refine hQf _ _ _ ?_
  exact bodyPost_ret (v := .bool true) (by first | rfl | (simp [results, Try.results170, go_sem]; done) | (simp [results, Try.results170, go_sem]; rfl)) rfl ⟨rfl, (Up.refl _)⟩
 rw [if_neg c18] at H; replace c18 := Bool.eq_false_iff.mpr c18
 have c18n : (a0 != 13) = true := by rw [bne, c18]; rfl
 have c18p : ¬ a0 = 13 := fun e => by simp [e] at c18
 try simp only [c18, c18n, Bool.not_true, Bool.not_false]
 refine wp_cond_false rfl ?_
 refine wp_seq_k (fun K20 hK20 => ?_)
 refine wp_region_lit ?_
 refine wpp fun K_ h_ => ?_; go_simp; refine h_ _ _ ?_; clear h_ K_
 refine wpp fun K_ h_ => ?_; go_simp; refine h_ _ _ ?_; clear h_ K_
 refine wpList_nil ?_
 (try simp only [Exit.then, Exit.inBlock, ↓reduceIte, Nat.reduceEqDiff])
 refine hK20 _ _ ?_
 by_cases c21 : (a0 == 17) = true
 ·
  rw [if_pos c21] at H
  have c21n : (a0 != 17) = false := by rw [bne, c21]; rfl
  obtain rfl := Option.some.inj H
  try simp only [c21, c21n, Bool.not_true, Bool.not_false]
  refine wp_cond_true rfl ?_
  refine wp_skip ?_
  (try simp only [Exit.then, Exit.inBlock, ↓reduceIte, Nat.reduceEqDiff])
  refine hK4 _ _ ?_
  refine wp_cond_true rfl ?_
  refine wp_seq_k (fun K22 hK22 => ?_)
  refine wp_region_lit ?_
  refine wpp fun K_ h_ => ?_; go_simp; refine h_ _ _ ?_; clear h_ K_
  refine wpList_nil ?_
  (try simp only [Exit.then, Exit.inBlock, ↓reduceIte, Nat.reduceEqDiff])
  refine hK22 _ _ ?_
  refine wp_ret ?_
  (try simp only [Exit.then, Exit.inBlock, ↓reduceIte, Nat.reduceEqDiff])
  refine hQf _ _ _ ?_
  exact bodyPost_ret (v := .bool true) (by first | rfl | (simp [results, Try.results170, go_sem]; done) | (simp [results, Try.results170, go_sem]; rfl)) rfl ⟨rfl, (Up.refl _)⟩
 rw [if_neg c21] at H; replace c21 := Bool.eq_false_iff.mpr c21
 have c21n : (a0 != 17) = true := by rw [bne, c21]; rfl
 have c21p : ¬ a0 = 17 := fun e => by simp [e] at c21
 try simp only [c21, c21n, Bool.not_true, Bool.not_false]
 refine wp_cond_false rfl ?_
 refine wp_seq_k (fun K23 hK23 => ?_)
 refine wp_region_lit ?_
 refine wpp fun K_ h_ => ?_; go_simp; refine h_ _ _ ?_; clear h_ K_
 refine wpp fun K_ h_ => ?_; go_simp; refine h_ _ _ ?_; clear h_ K_
 refine wpList_nil ?_
 (try simp only [Exit.then, Exit.inBlock, ↓reduceIte, Nat.reduceEqDiff])
 refine hK23 _ _ ?_
 by_cases c24 : (a0 == 19) = true
 ·
  rw [if_pos c24] at H
  have c24n : (a0 != 19) = false := by rw [bne, c24]; rfl
  obtain rfl := Option.some.inj H
  try simp only [c24, c24n, Bool.not_true, Bool.not_false]
  refine wp_cond_true rfl ?_
  refine wp_skip ?_
  (try simp only [Exit.then, Exit.inBlock, ↓reduceIte, Nat.reduceEqDiff])
  refine hK4 _ _ ?_
  refine wp_cond_true rfl ?_
  refine wp_seq_k (fun K25 hK25 => ?_)
  refine wp_region_lit ?_
  refine wpp fun K_ h_ => ?_; go_simp; refine h_ _ _ ?_; clear h_ K_
  refine wpList_nil ?_
  (try simp only [Exit.then, Exit.inBlock, ↓reduceIte, Nat.reduceEqDiff])
  refine hK25 _ _ ?_
  refine wp_ret ?_
  (try simp only [Exit.then, Exit.inBlock, ↓reduceIte, Nat.reduceEqDiff])
  refine hQf _ _ _ ?_
  exact bodyPost_ret (v := .bool true) (by first | rfl | (simp [results, Try.results170, go_sem]; done) | (simp [results, Try.results170, go_sem]; rfl)) rfl ⟨rfl, (Up.refl _)⟩
 rw [if_neg c24] at H; replace c24 := Bool.eq_false_iff.mpr c24
 have c24n : (a0 != 19) = true := by rw [bne, c24]; rfl
 have c24p : ¬ a0 = 19 := fun e => by simp [e] at c24
 try simp only [c24, c24n, Bool.not_true, Bool.not_false]
 refine wp_cond_false rfl ?_
 refine wp_seq_k (fun K26 hK26 => ?_)
 refine wp_region_lit ?_
 refine wpp fun K_ h_ => ?_; go_simp; refine h_ _ _ ?_; clear h_ K_
 refine wpp fun K_ h_ => ?_; go_simp; refine h_ _ _ ?_; clear h_ K_
 refine wpList_nil ?_
 (try simp only [Exit.then, Exit.inBlock, ↓reduceIte, Nat.reduceEqDiff])
 refine hK26 _ _ ?_
 by_cases c27 : (a0 == 23) = true
 ·
  rw [if_pos c27] at H
  have c27n : (a0 != 23) = false := by rw [bne, c27]; rfl
  obtain rfl := Option.some.inj H
  try simp only [c27, c27n, Bool.not_true, Bool.not_false]
  refine wp_cond_true rfl ?_
  refine wp_skip ?_
  (try simp only [Exit.then, Exit.inBlock, ↓reduceIte, Nat.reduceEqDiff])
  refine hK4 _ _ ?_
  refine wp_cond_true rfl ?_
  refine wp_seq_k (fun K28 hK28 => ?_)
  refine wp_region_lit ?_
  refine wpp fun K_ h_ => ?_; go_simp; refine h_ _ _ ?_; clear h_ K_
  refine wpList_nil ?_
  (try simp only [Exit.then, Exit.inBlock, ↓reduceIte, Nat.reduceEqDiff])
  refine hK28 _ _ ?_
  refine wp_ret ?_
  (try simp only [Exit.then, Exit.inBlock, ↓reduceIte, Nat.reduceEqDiff])
  refine hQf _ _ _ ?_
  exact bodyPost_ret (v := .bool true) (by first | rfl | (simp [results, Try.results170, go_sem]; done) | (simp [results, Try.results170, go_sem]; rfl)) rfl ⟨rfl, (Up.refl _)⟩
 rw [if_neg c27] at H; replace c27 := Bool.eq_false_iff.mpr c27
 have c27n : (a0 != 23) = true := by rw [bne, c27]; rfl
 have c27p : ¬ a0 = 23 := fun e => by simp [e] at c27
 try simp only [c27, c27n, Bool.not_true, Bool.not_false]
 refine wp_cond_false rfl ?_
 refine wp_seq_k (fun K29 hK29 => ?_)
 refine wp_region_lit ?_
 refine wpp fun K_ h_ => ?_; go_simp; refine h_ _ _ ?_; clear h_ K_
 refine wpp fun K_ h_ => ?_; go_simp; refine h_ _ _ ?_; clear h_ K_
 refine wpList_nil ?_
 (try simp only [Exit.then, Exit.inBlock, ↓reduceIte, Nat.reduceEqDiff])
 refine hK29 _ _ ?_
 by_cases c30 : (a0 == 29) = true
 ·
  rw [if_pos c30] at H
  have c30n : (a0 != 29) = false := by rw [bne, c30]; rfl
  obtain rfl := Option.some.inj H
  try simp only [c30, c30n, Bool.not_true, Bool.not_false]
  refine wp_cond_true rfl ?_
  refine wp_skip ?_
  (try simp only [Exit.then, Exit.inBlock, ↓reduceIte, Nat.reduceEqDiff])
  refine hK4 _ _ ?_
  refine wp_cond_true rfl ?_
  refine wp_seq_k (fun K31 hK31 => ?_)
  refine wp_region_lit ?_
  refine wpp fun K_ h_ => ?_; go_simp; refine h_ _ _ ?_; clear h_ K_
  refine wpList_nil ?_
  (try simp only [Exit.then, Exit.inBlock, ↓reduceIte, Nat.reduceEqDiff])
  refine hK31 _ _ ?_
  refine wp_ret ?_
  (try simp only [Exit.then, Exit.inBlock, ↓reduceIte, Nat.reduceEqDiff])
  refine hQf _ _ _ ?_
  exact bodyPost_ret (v := .bool true) (by first | rfl | (simp [results, Try.results170, go_sem]; done) | (simp [results, Try.results170, go_sem]; rfl)) rfl ⟨rfl, (Up.refl _)⟩
 rw [if_neg c30] at H; replace c30 := Bool.eq_false_iff.mpr c30
 have c30n : (a0 != 29) = true := by rw [bne, c30]; rfl
 have c30p : ¬ a0 = 29 := fun e => by simp [e] at c30
 try simp only [c30, c30n, Bool.not_true, Bool.not_false]
 refine wp_cond_false rfl ?_
 refine wp_region_lit ?_
 refine wpp fun K_ h_ => ?_; go_simp; refine h_ _ _ ?_; clear h_ K_
 refine wpp fun K_ h_ => ?_; go_simp; refine h_ _ _ ?_; clear h_ K_
 refine wpList_nil ?_
 (try simp only [Exit.then, Exit.inBlock, ↓reduceIte, Nat.reduceEqDiff])
 refine hK4 _ _ ?_
 by_cases c32 : (a0 == 31) = true
 ·
  rw [if_pos c32] at H
  have c32n : (a0 != 31) = false := by rw [bne, c32]; rfl
  obtain rfl := Option.some.inj H
  try simp only [c32, c32n, Bool.not_true, Bool.not_false]
  refine wp_cond_true rfl ?_
  refine wp_seq_k (fun K33 hK33 => ?_)
  refine wp_region_lit ?_
  refine wpp fun K_ h_ => ?_; go_simp; refine h_ _ _ ?_; clear h_ K_
  refine wpList_nil ?_
  (try simp only [Exit.then, Exit.inBlock, ↓reduceIte, Nat.reduceEqDiff])
  refine hK33 _ _ ?_
  refine wp_ret ?_
  (try simp only [Exit.then, Exit.inBlock, ↓reduceIte, Nat.reduceEqDiff])
  refine hQf _ _ _ ?_
  exact bodyPost_ret (v := .bool true) (by first | rfl | (simp [results, Try.results170, go_sem]; done) | (simp [results, Try.results170, go_sem]; rfl)) rfl ⟨rfl, (Up.refl _)⟩
 rw [if_neg c32] at H; replace c32 := Bool.eq_false_iff.mpr c32
 have c32n : (a0 != 31) = true := by rw [bne, c32]; rfl
 have c32p : ¬ a0 = 31 := fun e => by simp [e] at c32
 obtain rfl := Option.some.inj H
 try simp only [c32, c32n, Bool.not_true, Bool.not_false]
 refine wp_cond_false rfl ?_
 refine wp_skip ?_
 (try simp only [Exit.then, Exit.inBlock, ↓reduceIte, Nat.reduceEqDiff])
 refine hK2 _ _ ?_
 refine wp_seq_k (fun K34 hK34 => ?_)
 refine wp_region_lit ?_
 refine wpp fun K_ h_ => ?_; go_simp; refine h_ _ _ ?_; clear h_ K_
 refine wpList_nil ?_
 (try simp only [Exit.then, Exit.inBlock, ↓reduceIte, Nat.reduceEqDiff])
 refine hK34 _ _ ?_
 refine wp_ret ?_
 (try simp only [Exit.then, Exit.inBlock, ↓reduceIte, Nat.reduceEqDiff])
 refine hQf _ _ _ ?_
 exact bodyPost_ret (v := .bool false) (by first | rfl | (simp [results, Try.results170, go_sem]; done) | (simp [results, Try.results170, go_sem]; rfl)) rfl ⟨rfl, (Up.refl _)⟩

set_option maxHeartbeats 40000000 in
set_option maxRecDepth 100000 in
theorem impl_isNumber.calls (K : Nat) (a0 : Int) (a1 : Int) (r0 : Bool) (w : World)  (h : impl_isNumber.f K a0 a1 = some (r0)) :
    Calls Try.prog 92 #[.int .i64 a0, .int .i64 a1] w fun e w' => e = .returned (.bool r0) ∧ Up w w' := by
 have H : ((if decide (0 ≤ a1) = true then some (decide (a1 < a0)) else some false) : Option (Bool)) = some (r0) := h
 clear h
 go_enter Try.func92, Try.ntmps92
 refine wp_hide (fun Qf hQf => ?_)
 refine wp_seq_k (fun K1 hK1 => ?_)
 refine wp_region_lit ?_
 refine wpp fun K_ h_ => ?_; go_simp; refine h_ _ _ ?_; clear h_ K_
 refine wpList_nil ?_
 (try simp only [Exit.then, Exit.inBlock, ↓reduceIte, Nat.reduceEqDiff])
 refine hK1 _ _ ?_
 refine wp_seq_k (fun K2 hK2 => ?_)
 refine wp_region_lit ?_
 refine wpp fun K_ h_ => ?_; go_simp; refine h_ _ _ ?_; clear h_ K_
 refine wpp fun K_ h_ => ?_; go_simp; refine h_ _ _ ?_; clear h_ K_
 refine wpp fun K_ h_ => ?_; go_simp; refine h_ _ _ ?_; clear h_ K_
 by_cases c3 : (decide (0 ≤ a1)) = true
 ·
  rw [if_pos c3] at H
  obtain rfl := Option.some.inj H
  try simp only [c3, Bool.not_true, Bool.not_false]
  refine wpList_step fun K_ h_ => ?_; go_simp; refine h_ _ _ ?_; clear h_ K_
  refine wpList_step fun K_ h_ => ?_; go_simp; refine h_ _ _ ?_; clear h_ K_
  refine wpList_step fun K_ h_ => ?_; go_simp; refine h_ _ _ ?_; clear h_ K_
  refine wpp fun K_ h_ => ?_; go_simp; refine h_ _ _ ?_; clear h_ K_
  refine wpp fun K_ h_ => ?_; go_simp; refine h_ _ _ ?_; clear h_ K_
  refine wpList_nil ?_
  (try simp only [Exit.then, Exit.inBlock, ↓reduceIte, Nat.reduceEqDiff])
  refine hK2 _ _ ?_
  refine wp_ret ?_
  (try simp only [Exit.then, Exit.inBlock, ↓reduceIte, Nat.reduceEqDiff])
  refine hQf _ _ _ ?_
  exact bodyPost_ret (v := .bool (decide (a1 < a0))) (by first | rfl | (simp [results, Try.results92, go_sem]; done) | (simp [results, Try.results92, go_sem]; rfl)) rfl ⟨rfl, (Up.refl _)⟩
 rw [if_neg c3] at H; replace c3 := Bool.eq_false_iff.mpr c3
 obtain rfl := Option.some.inj H
 try simp only [c3, Bool.not_true, Bool.not_false]
 refine step_no rfl ?_
 simp only [Act.put, nm1, nm2, nm3, i64_w]
 refine step_no rfl ?_
 simp only [Act.put, nm1, nm2, nm3, i64_w]
 refine step_no rfl ?_
 simp only [Act.put, nm1, nm2, nm3, i64_w]
 refine wpp fun K_ h_ => ?_; go_simp; refine h_ _ _ ?_; clear h_ K_
 refine wpp fun K_ h_ => ?_; go_simp; refine h_ _ _ ?_; clear h_ K_
 refine wpList_nil ?_
 (try simp only [Exit.then, Exit.inBlock, ↓reduceIte, Nat.reduceEqDiff])
 refine hK2 _ _ ?_
 refine wp_ret ?_
 (try simp only [Exit.then, Exit.inBlock, ↓reduceIte, Nat.reduceEqDiff])
 refine hQf _ _ _ ?_
 exact bodyPost_ret (v := .bool false) (by first | rfl | (simp [results, Try.results92, go_sem]; done) | (simp [results, Try.results92, go_sem]; rfl)) rfl ⟨rfl, (Up.refl _)⟩

set_option maxHeartbeats 40000000 in
set_option maxRecDepth 100000 in
theorem impl_isIndex.calls (K : Nat) (a0 : Int) (r0 : Bool) (w : World)  (h : impl_isIndex.f K a0 = some (r0)) :
    Calls Try.prog 93 #[.int .i64 a0] w fun e w' => e = .returned (.bool r0) ∧ Up w w' := by
 have H : ((if decide (0 ≤ a0) = true then some (decide (a0 ≤ 1000)) else some false) : Option (Bool)) = some (r0) := h
 clear h
 go_enter Try.func93, Try.ntmps93
 refine wp_hide (fun Qf hQf => ?_)
 refine wp_seq_k (fun K1 hK1 => ?_)
 refine wp_region_lit ?_
 refine wpp fun K_ h_ => ?_; go_simp; refine h_ _ _ ?_; clear h_ K_
 refine wpList_nil ?_
 (try simp only [Exit.then, Exit.inBlock, ↓reduceIte, Nat.reduceEqDiff])
 refine hK1 _ _ ?_
 refine wp_seq_k (fun K2 hK2 => ?_)
 refine wp_region_lit ?_
 refine wpp fun K_ h_ => ?_; go_simp; refine h_ _ _ ?_; clear h_ K_
 refine wpp fun K_ h_ => ?_; go_simp; refine h_ _ _ ?_; clear h_ K_
 refine wpp fun K_ h_ => ?_; go_simp; refine h_ _ _ ?_; clear h_ K_
 by_cases c3 : (decide (0 ≤ a0)) = true
 ·
  rw [if_pos c3] at H
  obtain rfl := Option.some.inj H
  try simp only [c3, Bool.not_true, Bool.not_false]
  refine wpList_step fun K_ h_ => ?_; go_simp; refine h_ _ _ ?_; clear h_ K_
  refine wpList_step fun K_ h_ => ?_; go_simp; refine h_ _ _ ?_; clear h_ K_
  refine wpp fun K_ h_ => ?_; go_simp; refine h_ _ _ ?_; clear h_ K_
  refine wpp fun K_ h_ => ?_; go_simp; refine h_ _ _ ?_; clear h_ K_
  refine wpList_nil ?_
  (try simp only [Exit.then, Exit.inBlock, ↓reduceIte, Nat.reduceEqDiff])
  refine hK2 _ _ ?_
  refine wp_ret ?_
  (try simp only [Exit.then, Exit.inBlock, ↓reduceIte, Nat.reduceEqDiff])
  refine hQf _ _ _ ?_
  exact bodyPost_ret (v := .bool (decide (a0 ≤ 1000))) (by first | rfl | (simp [results, Try.results93, go_sem]; done) | (simp [results, Try.results93, go_sem]; rfl)) rfl ⟨rfl, (Up.refl _)⟩
 rw [if_neg c3] at H; replace c3 := Bool.eq_false_iff.mpr c3
 obtain rfl := Option.some.inj H
 try simp only [c3, Bool.not_true, Bool.not_false]
 refine step_no rfl ?_
 simp only [Act.put, nm1, nm2, nm3, i64_w]
 refine step_no rfl ?_
 simp only [Act.put, nm1, nm2, nm3, i64_w]
 refine wpp fun K_ h_ => ?_; go_simp; refine h_ _ _ ?_; clear h_ K_
 refine wpp fun K_ h_ => ?_; go_simp; refine h_ _ _ ?_; clear h_ K_
 refine wpList_nil ?_
 (try simp only [Exit.then, Exit.inBlock, ↓reduceIte, Nat.reduceEqDiff])
 refine hK2 _ _ ?_
 refine wp_ret ?_
 (try simp only [Exit.then, Exit.inBlock, ↓reduceIte, Nat.reduceEqDiff])
 refine hQf _ _ _ ?_
 exact bodyPost_ret (v := .bool false) (by first | rfl | (simp [results, Try.results93, go_sem]; done) | (simp [results, Try.results93, go_sem]; rfl)) rfl ⟨rfl, (Up.refl _)⟩

set_option maxHeartbeats 40000000 in
set_option maxRecDepth 100000 in
theorem impl_SpreadPolynomial_1.calls (K : Nat) (bf0 : Nat) (f0_0 : Int) (bf1 : Nat) (f1_0 : Int) (bf2 : Nat) (f2_0 : Int) (r0 : Bool) (w : World) (hf0 : Blk w bf0 [.int .i64 f0_0] 2) (hf1 : Blk w bf1 [.int .i64 f1_0] 2) (hf2 : Blk w bf2 [.int .i64 f2_0] 2) (h : impl_SpreadPolynomial_1.f K f0_0 f1_0 f2_0 = some (r0)) :
    Calls Try.prog 91 #[.pointer (some ⟨bf0, 0, none⟩), .pointer (some ⟨bf1, 0, none⟩), .pointer (some ⟨bf2, 0, none⟩)] w fun e w' => e = .returned (.bool r0) ∧ Up w w' := by
 have H : (((impl_isNumber.f K f0_0 f1_0).bind fun t3 => (if t3 = true then ((impl_isIndex.f K f2_0).bind fun t8 => some t8) else some false)) : Option (Bool)) = some (r0) := h
 clear h
 replace H := Option.bind_eq_some_iff.mp H
 obtain ⟨t3, A4, H⟩ := H
 replace A4 := Aside0.mk A4
 try dsimp only at H
 have ltbf0 := Aside0.mk hf0.lt
 have ltbf1 := Aside0.mk hf1.lt
 have ltbf2 := Aside0.mk hf2.lt
 go_enter Try.func91, Try.ntmps91
 refine wp_hide (fun Qf hQf => ?_)
 refine wp_seq_k (fun K1 hK1 => ?_)
 refine wp_region_lit ?_
 refine wpp fun K_ h_ => ?_; go_simp; refine h_ _ _ ?_; clear h_ K_
 refine wpList_nil ?_
 (try simp only [Exit.then, Exit.inBlock, ↓reduceIte, Nat.reduceEqDiff])
 refine hK1 _ _ ?_
 refine wp_seq_k (fun K2 hK2 => ?_)
 refine wp_region_lit ?_
 have cl0 := hf0.cell (o := 0) rfl
 refine wpp fun K_ h_ => ?_; go_simp; refine h_ _ _ ?_; clear h_ K_
 clear cl0
 have cl0 := hf1.cell (o := 0) rfl
 refine wpp fun K_ h_ => ?_; go_simp; refine h_ _ _ ?_; clear h_ K_
 clear cl0
 refine step_call (wanted_none rfl) (by go_simp <;> rfl) (impl_isNumber.calls K f0_0 f1_0 t3 w  A4.out) ?_
 rintro e w5 ⟨rfl, hu⟩
 have hu6 := Aside0.mk hu
 clear hu
 refine ⟨_, rfl, ?_⟩
 simp only [Act.put, nm1, nm2, nm3, i64_w]
 refine wpp fun K_ h_ => ?_; go_simp; refine h_ _ _ ?_; clear h_ K_
 by_cases c7 : (t3) = true
 rotate_left
 ·
  rw [if_neg c7] at H; replace c7 := Bool.eq_false_iff.mpr c7
  subst c7
  obtain rfl := Option.some.inj H
  refine step_no rfl ?_
  simp only [Act.put, nm1, nm2, nm3, i64_w]
  refine step_no rfl ?_
  simp only [Act.put, nm1, nm2, nm3, i64_w]
  refine wpp fun K_ h_ => ?_; go_simp; refine h_ _ _ ?_; clear h_ K_
  refine wpp fun K_ h_ => ?_; go_simp; refine h_ _ _ ?_; clear h_ K_
  refine wpList_nil ?_
  (try simp only [Exit.then, Exit.inBlock, ↓reduceIte, Nat.reduceEqDiff])
  refine hK2 _ _ ?_
  refine wp_ret ?_
  (try simp only [Exit.then, Exit.inBlock, ↓reduceIte, Nat.reduceEqDiff])
  refine hQf _ _ _ ?_
  exact bodyPost_ret (v := .bool false) (by first | rfl | (simp [results, Try.results91, go_sem]; done) | (simp [results, Try.results91, go_sem]; rfl)) rfl ⟨rfl, hu6.out⟩
 rw [if_pos c7] at H
 subst c7
 replace H := Option.bind_eq_some_iff.mp H
 obtain ⟨t8, A9, H⟩ := H
 replace A9 := Aside0.mk A9
 try dsimp only at H
 obtain rfl := Option.some.inj H
 have cl0 := (hf2.up hu6.out).cell (o := 0) rfl
 refine wpList_step fun K_ h_ => ?_; go_simp; refine h_ _ _ ?_; clear h_ K_
 clear cl0
 refine step_call rfl (by go_simp <;> rfl) (impl_isIndex.calls K f2_0 t8 w5  A9.out) ?_
 rintro e w10 ⟨rfl, hu⟩
 have hu11 := Aside0.mk hu
 clear hu
 refine ⟨_, rfl, ?_⟩
 simp only [Act.put, nm1, nm2, nm3, i64_w]
 refine wpp fun K_ h_ => ?_; go_simp; refine h_ _ _ ?_; clear h_ K_
 refine wpp fun K_ h_ => ?_; go_simp; refine h_ _ _ ?_; clear h_ K_
 refine wpList_nil ?_
 (try simp only [Exit.then, Exit.inBlock, ↓reduceIte, Nat.reduceEqDiff])
 refine hK2 _ _ ?_
 refine wp_ret ?_
 (try simp only [Exit.then, Exit.inBlock, ↓reduceIte, Nat.reduceEqDiff])
 refine hQf _ _ _ ?_
 exact bodyPost_ret (v := .bool t8) (by first | rfl | (simp [results, Try.results91, go_sem]; done) | (simp [results, Try.results91, go_sem]; rfl)) rfl ⟨rfl, (hu6.out.trans hu11.out)⟩

set_option maxHeartbeats 40000000 in
set_option maxRecDepth 100000 in
theorem impl_asked__impl_SpreadPolynomial_1.calls (K : Nat) (a0 : Int) (bc1_0 : Nat) (c1_0_0 : Int) (bc1_1 : Nat) (c1_1_0 : Int) (bc1_2 : Nat) (c1_2_0 : Int) (r0 : Int) (w : World) (hc1_0 : Blk w bc1_0 [.int .i64 c1_0_0] 2) (hc1_1 : Blk w bc1_1 [.int .i64 c1_1_0] 2) (hc1_2 : Blk w bc1_2 [.int .i64 c1_2_0] 2) (h : impl_asked__impl_SpreadPolynomial_1.f K a0 c1_0_0 c1_1_0 c1_2_0 = some (r0)) :
    Calls Try.prog 67 #[.int .i64 a0, .func (.func 91) #[] #[.pointer (some ⟨bc1_0, 0, none⟩), .pointer (some ⟨bc1_1, 0, none⟩), .pointer (some ⟨bc1_2, 0, none⟩)]] w fun e w' => e = .returned (.int .i64 r0) ∧ Up w w' := by
 have H : (((impl_IsField.f K a0).bind fun t4 => (if t4 = true then ((impl_SpreadPolynomial_1.f K c1_0_0 c1_1_0 c1_2_0).bind fun t11 => (if t11 = true then some 0 else some 2)) else some 1)) : Option (Int)) = some (r0) := h
 clear h
 replace H := Option.bind_eq_some_iff.mp H
 obtain ⟨t4, A5, H⟩ := H
 replace A5 := Aside0.mk A5
 try dsimp only at H
 have ltbc1_0 := Aside0.mk hc1_0.lt
 have ltbc1_1 := Aside0.mk hc1_1.lt
 have ltbc1_2 := Aside0.mk hc1_2.lt
 go_enter Try.func67, Try.ntmps67
 refine wp_hide (fun Qf hQf => ?_)
 refine wp_seq_k (fun K1 hK1 => ?_)
 refine wp_region_lit ?_
 refine wpp fun K_ h_ => ?_; go_simp; refine h_ _ _ ?_; clear h_ K_
 refine wpList_nil ?_
 (try simp only [Exit.then, Exit.inBlock, ↓reduceIte, Nat.reduceEqDiff])
 refine hK1 _ _ ?_
 refine wp_seq_k (fun K2 hK2 => ?_)
 refine wp_seq_k (fun K3 hK3 => ?_)
 refine wp_region_lit ?_
 refine wpp fun K_ h_ => ?_; go_simp; refine h_ _ _ ?_; clear h_ K_
 refine step_call (wanted_none rfl) (by go_simp <;> rfl) (impl_IsField.calls K a0 t4 w  A5.out) ?_
 rintro e w6 ⟨rfl, hu⟩
 have hu7 := Aside0.mk hu
 clear hu
 refine ⟨_, rfl, ?_⟩
 simp only [Act.put, nm1, nm2, nm3, i64_w]
 refine wpp fun K_ h_ => ?_; go_simp; refine h_ _ _ ?_; clear h_ K_
 refine wpList_nil ?_
 (try simp only [Exit.then, Exit.inBlock, ↓reduceIte, Nat.reduceEqDiff])
 refine hK3 _ _ ?_
 by_cases c8 : (t4) = true
 rotate_left
 ·
  rw [if_neg c8] at H; replace c8 := Bool.eq_false_iff.mpr c8
  subst c8
  obtain rfl := Option.some.inj H
  refine wp_cond_true rfl ?_
  refine wp_seq_k (fun K18 hK18 => ?_)
  refine wp_region_lit ?_
  refine wpp fun K_ h_ => ?_; go_simp; refine h_ _ _ ?_; clear h_ K_
  refine wpList_nil ?_
  (try simp only [Exit.then, Exit.inBlock, ↓reduceIte, Nat.reduceEqDiff])
  refine hK18 _ _ ?_
  refine wp_ret ?_
  (try simp only [Exit.then, Exit.inBlock, ↓reduceIte, Nat.reduceEqDiff])
  refine hQf _ _ _ ?_
  exact bodyPost_ret (v := .int .i64 1) (by first | rfl | (simp [results, Try.results67, go_sem]; done) | (simp [results, Try.results67, go_sem]; rfl)) rfl ⟨rfl, hu7.out⟩
 rw [if_pos c8] at H
 subst c8
 replace H := Option.bind_eq_some_iff.mp H
 obtain ⟨t11, A12, H⟩ := H
 replace A12 := Aside0.mk A12
 try dsimp only at H
 refine wp_cond_false rfl ?_
 refine wp_skip ?_
 (try simp only [Exit.then, Exit.inBlock, ↓reduceIte, Nat.reduceEqDiff])
 refine hK2 _ _ ?_
 refine wp_seq_k (fun K9 hK9 => ?_)
 refine wp_seq_k (fun K10 hK10 => ?_)
 refine wp_region_lit ?_
 refine wpp fun K_ h_ => ?_; go_simp; refine h_ _ _ ?_; clear h_ K_
 refine step_call (wanted_none rfl) (by go_simp <;> rfl) (impl_SpreadPolynomial_1.calls K bc1_0 c1_0_0 bc1_1 c1_1_0 bc1_2 c1_2_0 t11 w6 (hc1_0.up hu7.out) (hc1_1.up hu7.out) (hc1_2.up hu7.out) A12.out) ?_
 rintro e w13 ⟨rfl, hu⟩
 have hu14 := Aside0.mk hu
 clear hu
 refine ⟨_, rfl, ?_⟩
 simp only [Act.put, nm1, nm2, nm3, i64_w]
 refine wpp fun K_ h_ => ?_; go_simp; refine h_ _ _ ?_; clear h_ K_
 refine wpList_nil ?_
 (try simp only [Exit.then, Exit.inBlock, ↓reduceIte, Nat.reduceEqDiff])
 refine hK10 _ _ ?_
 by_cases c15 : (t11) = true
 rotate_left
 ·
  rw [if_neg c15] at H; replace c15 := Bool.eq_false_iff.mpr c15
  subst c15
  obtain rfl := Option.some.inj H
  refine wp_cond_true rfl ?_
  refine wp_seq_k (fun K17 hK17 => ?_)
  refine wp_region_lit ?_
  refine wpp fun K_ h_ => ?_; go_simp; refine h_ _ _ ?_; clear h_ K_
  refine wpList_nil ?_
  (try simp only [Exit.then, Exit.inBlock, ↓reduceIte, Nat.reduceEqDiff])
  refine hK17 _ _ ?_
  refine wp_ret ?_
  (try simp only [Exit.then, Exit.inBlock, ↓reduceIte, Nat.reduceEqDiff])
  refine hQf _ _ _ ?_
  exact bodyPost_ret (v := .int .i64 2) (by first | rfl | (simp [results, Try.results67, go_sem]; done) | (simp [results, Try.results67, go_sem]; rfl)) rfl ⟨rfl, (hu7.out.trans hu14.out)⟩
 rw [if_pos c15] at H
 subst c15
 obtain rfl := Option.some.inj H
 refine wp_cond_false rfl ?_
 refine wp_skip ?_
 (try simp only [Exit.then, Exit.inBlock, ↓reduceIte, Nat.reduceEqDiff])
 refine hK9 _ _ ?_
 refine wp_seq_k (fun K16 hK16 => ?_)
 refine wp_region_lit ?_
 refine wpp fun K_ h_ => ?_; go_simp; refine h_ _ _ ?_; clear h_ K_
 refine wpList_nil ?_
 (try simp only [Exit.then, Exit.inBlock, ↓reduceIte, Nat.reduceEqDiff])
 refine hK16 _ _ ?_
 refine wp_ret ?_
 (try simp only [Exit.then, Exit.inBlock, ↓reduceIte, Nat.reduceEqDiff])
 refine hQf _ _ _ ?_
 exact bodyPost_ret (v := .int .i64 0) (by first | rfl | (simp [results, Try.results67, go_sem]; done) | (simp [results, Try.results67, go_sem]; rfl)) rfl ⟨rfl, (hu7.out.trans hu14.out)⟩

set_option maxHeartbeats 40000000 in
set_option maxRecDepth 100000 in
theorem impl_rest.calls (K : Nat) (a0 : Int) (a1 : Int) (r0 : Int) (w : World)  (h : impl_rest.f K a0 a1 = some (r0)) :
    Calls Try.prog 110 #[.int .i64 a0, .int .i64 a1] w fun e w' => e = .returned (.int .i64 r0) ∧ Up w w' := by
 have H : ((if (a0 == 0) = true then none else some (Int.tmod (wrap64 ((Int.tmod a1 a0) + a0)) a0)) : Option (Int)) = some (r0) := h
 clear h
 go_enter Try.func110, Try.ntmps110
 refine wp_hide (fun Qf hQf => ?_)
 refine wp_seq_k (fun K1 hK1 => ?_)
 refine wp_region_lit ?_
 refine wpp fun K_ h_ => ?_; go_simp; refine h_ _ _ ?_; clear h_ K_
 refine wpList_nil ?_
 (try simp only [Exit.then, Exit.inBlock, ↓reduceIte, Nat.reduceEqDiff])
 refine hK1 _ _ ?_
 refine wp_seq_k (fun K2 hK2 => ?_)
 refine wp_region_lit ?_
 refine wpp fun K_ h_ => ?_; go_simp; refine h_ _ _ ?_; clear h_ K_
 refine wpp fun K_ h_ => ?_; go_simp; refine h_ _ _ ?_; clear h_ K_
 by_cases c3 : (a0 == 0) = true
 ·
  rw [if_pos c3] at H
  have c3n : (a0 != 0) = false := by rw [bne, c3]; rfl
  exact absurd H (by simp)
 rw [if_neg c3] at H; replace c3 := Bool.eq_false_iff.mpr c3
 have c3n : (a0 != 0) = true := by rw [bne, c3]; rfl
 have c3p : ¬ a0 = 0 := fun e => by simp [e] at c3
 obtain rfl := Option.some.inj H
 try simp only [c3, c3n, Bool.not_true, Bool.not_false]
 refine wpp fun K_ h_ => ?_; go_simp; refine h_ _ _ ?_; clear h_ K_
 refine wpp fun K_ h_ => ?_; go_simp; refine h_ _ _ ?_; clear h_ K_
 refine wpp fun K_ h_ => ?_; go_simp; refine h_ _ _ ?_; clear h_ K_
 refine wpp fun K_ h_ => ?_; go_simp; refine h_ _ _ ?_; clear h_ K_
 refine wpp fun K_ h_ => ?_; go_simp; refine h_ _ _ ?_; clear h_ K_
 refine wpp fun K_ h_ => ?_; go_simp; refine h_ _ _ ?_; clear h_ K_
 refine wpList_nil ?_
 (try simp only [Exit.then, Exit.inBlock, ↓reduceIte, Nat.reduceEqDiff])
 refine hK2 _ _ ?_
 refine wp_ret ?_
 (try simp only [Exit.then, Exit.inBlock, ↓reduceIte, Nat.reduceEqDiff])
 refine hQf _ _ _ ?_
 exact bodyPost_ret (v := .int .i64 (Int.tmod (wrap64 ((Int.tmod a1 a0) + a0)) a0)) (by first | rfl | (simp [results, Try.results110, go_sem]; done) | (simp [results, Try.results110, go_sem]; rfl)) rfl ⟨rfl, (Up.refl _)⟩

set_option maxHeartbeats 40000000 in
set_option maxRecDepth 100000 in
theorem impl_spreads.calls (K : Nat) (a0 : Int) (a1 : Int) (a2 : Int) (r0 : List (Int)) (w : World)  (h : impl_spreads.f K a0 a1 a2 = some (r0)) :
    Calls Try.prog 180 #[.int .i64 a0, .int .i64 a1, .int .i64 a2] w fun e w' => ∃ (Ar0 : Option Addr) (cr0 : Nat), e = .returned (.slice Ar0 r0.length cr0) ∧ Own eI 2 w' w.heap.size (.slice Ar0 r0.length cr0) r0 ∧ Up w w' := by
 have H : ((impl_spreads.l0 K a0 a1 a2 K 1 ([0, a2])) : Option (List (Int))) = some (r0) := h
 clear h
 go_enter Try.func180, Try.ntmps180
 refine wp_hide (fun Qf hQf => ?_)
 refine wp_seq_k (fun K1 hK1 => ?_)
 refine wp_region_lit ?_
 refine wpp fun K_ h_ => ?_; go_simp; refine h_ _ _ ?_; clear h_ K_
 refine wpList_nil ?_
 (try simp only [Exit.then, Exit.inBlock, ↓reduceIte, Nat.reduceEqDiff])
 refine hK1 _ _ ?_
 refine wp_seq_k (fun K2 hK2 => ?_)
 refine wp_region_lit ?_
 refine wpp fun K_ h_ => ?_; go_simp; refine h_ _ _ ?_; clear h_ K_
 refine step_new (cs := [.int .i64 0, .int .i64 a2]) (T := 2) (f := fun b => .slice (some ⟨b, 0, none⟩) 2 2) rfl (by go_simp <;> rfl) ?_
 intro b3 w4 hu lb hb3
 simp only [Act.put, nm1, nm2, nm3, i64_w]
 have lbb3 := Aside0.mk lb
 have ltb3 := Aside0.mk hb3.lt
 clear lb
 have hu5 := Aside0.mk hu
 clear hu
 refine wpp fun K_ h_ => ?_; go_simp; refine h_ _ _ ?_; clear h_ K_
 refine wpList_nil ?_
 (try simp only [Exit.then, Exit.inBlock, ↓reduceIte, Nat.reduceEqDiff])
 refine hK2 _ _ ?_
 refine wp_seq_k (fun K6 hK6 => ?_)
 refine wp_seq_k (fun K7 hK7 => ?_)
 refine wp_region_lit ?_
 refine wpp fun K_ h_ => ?_; go_simp; refine h_ _ _ ?_; clear h_ K_
 refine wpList_nil ?_
 (try simp only [Exit.then, Exit.inBlock, ↓reduceIte, Nat.reduceEqDiff])
 refine hK7 _ _ ?_
 refine wp_block ?_
 have h9 : Own eI 2 w4 w.heap.size (.slice (some ⟨b3, 0, none⟩) ([0, a2].length) 2) [0, a2] := Own.of_blk hb3 lbb3.out rfl (by simp) (by simp [Enc.flat, eI])
 have HL17 := Aside0.mk H
 clear H
 go_loopg [8, 7] K (fun kq v8 v7 w' => ∃ (x10 : Int) (x11 : List (Int)) (P12 : Option Addr) (q13 : Nat), v8 = .int .i64 x10 ∧ v7 = .slice P12 x11.length q13 ∧ Aside0 (impl_spreads.l0 K a0 a1 a2 kq x10 x11 = some (r0)) ∧ Aside0 (kq ≤ K) ∧ Aside0 (Up w w') ∧ Aside0 (w4.heap.size ≤ w'.heap.size) ∧ Own eI 2 w' w.heap.size (.slice P12 x11.length q13) x11)
 case atStart => exact ⟨1, [0, a2], some ⟨b3, 0, none⟩, 2, (by first | rfl | simp), (by first | rfl | simp), HL17, ⟨Nat.le_refl _⟩, ⟨hu5.out⟩, ⟨Nat.le_refl _⟩, h9⟩
 case round =>
  rename_i J22 K23 hJ22 hK23
  obtain ⟨x10, x11, P12, q13, rfl, rfl, HL21, hk20, hu15, hz16, h18⟩ := hrel
  obtain ⟨w14, rfl⟩ : ∃ wo : World, wo = wr := ⟨_, rfl⟩
  obtain ⟨k19, rfl⟩ | rfl : (∃ k, gk = k + 1) ∨ gk = 0 := by rcases gk with _ | k; exact .inr rfl; exact .inl ⟨k, rfl⟩
  case inr => exact absurd HL21.out (by simp [impl_spreads.l0])
  have H := HL21.out
  clear HL21
  rw [impl_spreads.l0] at H
  refine wp_seq_k (fun K24 hK24 => ?_)
  refine wp_seq_k (fun K25 hK25 => ?_)
  refine wp_region_lit ?_
  refine wpp fun K_ h_ => ?_; go_simp; refine h_ _ _ ?_; clear h_ K_
  refine wpp fun K_ h_ => ?_; go_simp; refine h_ _ _ ?_; clear h_ K_
  refine wpp fun K_ h_ => ?_; go_simp; refine h_ _ _ ?_; clear h_ K_
  refine wpList_nil ?_
  (try simp only [Exit.then, Exit.inBlock, ↓reduceIte, Nat.reduceEqDiff])
  refine hK25 _ _ ?_
  by_cases c26 : (decide (x10 < a1)) = true
  rotate_left
  ·
   rw [if_neg c26] at H; replace c26 := Bool.eq_false_iff.mpr c26
   obtain rfl := Option.some.inj H
   try simp only [c26, Bool.not_true, Bool.not_false]
   refine wp_cond_false rfl ?_
   refine wp_exit ?_
   (try simp only [Exit.then, Exit.inBlock, ↓reduceIte, Nat.reduceEqDiff])
   refine hK6 _ _ ?_
   refine wp_seq_k (fun K57 hK57 => ?_)
   refine wp_region_lit ?_
   refine wpp fun K_ h_ => ?_; go_simp; refine h_ _ _ ?_; clear h_ K_
   refine wpp fun K_ h_ => ?_; go_simp; refine h_ _ _ ?_; clear h_ K_
   refine wpList_nil ?_
   (try simp only [Exit.then, Exit.inBlock, ↓reduceIte, Nat.reduceEqDiff])
   refine hK57 _ _ ?_
   refine wp_ret ?_
   (try simp only [Exit.then, Exit.inBlock, ↓reduceIte, Nat.reduceEqDiff])
   refine hQf _ _ _ ?_
   exact bodyPost_ret (v := .slice P12 x11.length q13) (by first | rfl | (simp [results, Try.results180, go_sem]; done) | (simp [results, Try.results180, go_sem]; rfl)) rfl ⟨P12, q13, rfl, (h18.lower (Nat.le_refl _)), hu15.out⟩
  rw [if_pos c26] at H
  replace H := Option.bind_eq_some_iff.mp H
  obtain ⟨t28, A29, H⟩ := H
  replace A29 := Aside0.mk A29
  try dsimp only at H
  replace H := Option.bind_eq_some_iff.mp H
  obtain ⟨t34, A35, H⟩ := H
  replace A35 := Aside0.mk A35
  try dsimp only at H
  replace H := Option.bind_eq_some_iff.mp H
  obtain ⟨t40, A41, H⟩ := H
  replace A41 := Aside0.mk A41
  try dsimp only at H
  try simp only [c26, Bool.not_true, Bool.not_false]
  refine wp_cond_true rfl ?_
  refine wp_skip ?_
  (try simp only [Exit.then, Exit.inBlock, ↓reduceIte, Nat.reduceEqDiff])
  refine hK24 _ _ ?_
  refine wp_seq_k (fun K27 hK27 => ?_)
  refine wp_block ?_
  obtain ⟨ad30, hat, he⟩ := rd_at h18.rd A29.out
  have he31 := Aside0.mk he
  have hat33 := Aside0.mk hat
  clear he hat
  obtain ⟨ad36, hat, he⟩ := rd_at h18.rd A35.out
  have he37 := Aside0.mk he
  have hat39 := Aside0.mk hat
  clear he hat
  refine' wp_region_up 22 [Slot.det _, Slot.det _, Slot.det _, Slot.det _, Slot.det _, Slot.det _, Slot.det _, Slot.det _, Slot.det (.pointer (some ad30)), Slot.det _, Slot.det _, Slot.det _, Slot.det _, Slot.det _, Slot.det (.pointer (some ad36)), Slot.det _, Slot.det _, Slot.det _, Slot.det _, Slot.det _, Slot.det (.int .i64 t40), Slot.any (SlTo 1 [.int .i64 t40] 2 w14.heap.size) false] (by kernel_rfl) (by kernel_rfl) ?main
  case main =>
   simp only [List.take_succ_cons, List.take_zero]
   refine wpK_ops rfl (fun w1 hu => ?_) ?_
   · clear hu
     go_simp
     first | done | rfl
   simp only [Act.put, nm1, nm2, nm3, i64_w]
   refine wpK_ops rfl (fun w1 hu => ?_) ?_
   · clear hu
     go_simp
     first | done | rfl
   simp only [Act.put, nm1, nm2, nm3, i64_w]
   refine wpK_ops rfl (fun w1 hu => ?_) ?_
   · clear hu
     go_simp
     first | done | rfl
   simp only [Act.put, nm1, nm2, nm3, i64_w]
   refine wpK_ops rfl (fun w1 hu => ?_) ?_
   · clear hu
     go_simp
     first | done | rfl
   simp only [Act.put, nm1, nm2, nm3, i64_w]
   refine wpK_ops rfl (fun w1 hu => ?_) ?_
   · clear hu
     go_simp
     first | done | rfl
   simp only [Act.put, nm1, nm2, nm3, i64_w]
   refine wpK_ops rfl (fun w1 hu => ?_) ?_
   · clear hu
     go_simp
     first | done | rfl
   simp only [Act.put, nm1, nm2, nm3, i64_w]
   refine wpK_ops rfl (fun w1 hu => ?_) ?_
   · clear hu
     go_simp
     first | done | rfl
   simp only [Act.put, nm1, nm2, nm3, i64_w]
   refine wpK_ops rfl (fun w1 hu => ?_) ?_
   · clear hu
     go_simp
     first | done | rfl
   simp only [Act.put, nm1, nm2, nm3, i64_w]
   refine wpK_ops rfl (fun w1 hu => ?_) ?_
   · exact quiet_index eI (T := 2) rfl (by kernel_rfl) (by kernel_rfl) rfl rfl rfl hat33.out A29.out
   simp only [Act.put, nm1, nm2, nm3, i64_w]
   refine wpK_ops rfl (fun w1 hu => ?_) ?_
   · have cl0 := he31.out 0 _ rfl
     rw [addr_add0] at cl0
     replace cl0 := (((Up.refl _).drew.trans hu)).kept cl0
     go_simp
     first | done | rfl
   simp only [Act.put, nm1, nm2, nm3, i64_w]
   refine wpK_ops rfl (fun w1 hu => ?_) ?_
   · clear hu
     go_simp
     first | done | rfl
   simp only [Act.put, nm1, nm2, nm3, i64_w]
   refine wpK_ops rfl (fun w1 hu => ?_) ?_
   · clear hu
     go_simp
     first | done | rfl
   simp only [Act.put, nm1, nm2, nm3, i64_w]
   refine wpK_ops rfl (fun w1 hu => ?_) ?_
   · clear hu
     go_simp
     first | done | rfl
   simp only [Act.put, nm1, nm2, nm3, i64_w]
   refine wpK_ops rfl (fun w1 hu => ?_) ?_
   · clear hu
     go_simp
     first | done | rfl
   simp only [Act.put, nm1, nm2, nm3, i64_w]
   refine wpK_ops rfl (fun w1 hu => ?_) ?_
   · exact quiet_index eI (T := 2) rfl (by kernel_rfl) (by kernel_rfl) rfl rfl rfl hat39.out A35.out
   simp only [Act.put, nm1, nm2, nm3, i64_w]
   refine wpK_ops rfl (fun w1 hu => ?_) ?_
   · have cl0 := he37.out 0 _ rfl
     rw [addr_add0] at cl0
     replace cl0 := (((Up.refl _).drew.trans hu)).kept cl0
     go_simp
     first | done | rfl
   simp only [Act.put, nm1, nm2, nm3, i64_w]
   refine wpK_ops rfl (fun w1 hu => ?_) ?_
   · clear hu
     go_simp
     first | done | rfl
   simp only [Act.put, nm1, nm2, nm3, i64_w]
   refine wpK_ops rfl (fun w1 hu => ?_) ?_
   · clear hu
     go_simp
     first | done | rfl
   simp only [Act.put, nm1, nm2, nm3, i64_w]
   refine wpK_ops rfl (fun w1 hu => ?_) ?_
   · clear hu
     go_simp
     first | done | rfl
   simp only [Act.put, nm1, nm2, nm3, i64_w]
   refine wpK_ops rfl (fun w1 hu => ?_) ?_
   · clear hu
     go_simp
     first | done | rfl
   simp only [Act.put, nm1, nm2, nm3, i64_w]
   refine wpK_ops rfl (fun w1 hu => ?_) ?_
   · have hcl := (impl_rest.calls K a0 (wrap64 ((wrap64 ((wrap64 ((wrap64 (2 * (wrap64 (1 - (wrap64 (2 * a2)))))) * t28)) - t34)) + (wrap64 (2 * a2)))) t40 w1  A41.out)
     clear hu
     replace hcl := Aside0.mk hcl
     go_simp
     exact hcl.out
   simp only [Act.put, nm1, nm2, nm3, i64_w]
   refine wpK_any rfl (stab_sl _ _ _ _) (fun w1 hu _ => fresh_sl (by go_simp <;> rfl) ((Up.refl _).drew.trans hu).size) (fun v42 => ?_)
   simp only [Act.put, nm1, nm2, nm3, i64_w]
   refine wpK_nil ?_
   intro w44 hu hap
   simp only [List.drop_succ_cons, List.drop_zero]
   replace hu := (Up.refl _).drew.trans hu
   obtain ⟨-, -, ⟨b43, e0, hb43, lbb43⟩, -⟩ := hap
   replace lbb43 := Aside0.mk lbb43
   have ltb43 := Aside0.mk hb43.lt
   dsimp only at e0
   subst e0
   have hu45 := Aside0.mk hu
   clear hu
   by_cases c46 : (decide (x11.length ≤ 1000000)) = true
   rotate_left
   ·
    rw [if_neg c46] at H; replace c46 := Bool.eq_false_iff.mpr c46
    exact absurd H (by simp)
   rw [if_pos c46] at H
   have HL56 := Aside0.mk H
   clear H
   try simp only [c46, Bool.not_true, Bool.not_false]
   have hO0 := Aside0.mk (h18.up hu45.out)
   refine step_append eI (z := .int .i64 0) (bytes := 8) (base := w.heap.size) (xs := x11) (ys := [t40]) (wanted_none rfl) _ _ rfl rfl (by kernel_rfl) rfl (by decide) rfl rfl rfl hO0.out (Rd.of_blk (E := eI) (xs := [t40]) (o := 0) hb43 (by simp) (fun j u hu => by rcases j with _ | j <;> simp_all [Enc.flat, eI])) ((Nat.le_trans ((Nat.le_trans (hu5.out.size) hz16.out)) hu45.out.size)) (by have h0_ := (of_decide_eq_true (by assumption) : x11.length ≤ 1000000); (try simp only [List.length_cons, List.length_nil]); omega) ?_
   intro P47 q48 w49 h51 hg hat
   have hg52 := Aside0.mk hg
   have hat53 := Aside0.mk hat
   simp only [Act.put, nm1, nm2, nm3, i64_w]
   have lb54 := Aside0.mk hO0.out.lt
   clear hO0 hg hat
   have h55 := hb43.grow hg52.out (fun k hk => Nat.ne_of_lt (Nat.lt_of_lt_of_le ((fun k hk => Nat.lt_of_lt_of_le (h18.lt k hk).2 (Nat.le_refl _)) k hk) lbb43.out))
   refine wpp fun K_ h_ => ?_; go_simp; refine h_ _ _ ?_; clear h_ K_
   refine wpList_nil ?_
   (try simp only [Exit.then, Exit.inBlock, ↓reduceIte, Nat.reduceEqDiff])
   refine hK27 _ _ ?_
   refine wp_region_lit ?_
   refine wpp fun K_ h_ => ?_; go_simp; refine h_ _ _ ?_; clear h_ K_
   refine wpp fun K_ h_ => ?_; go_simp; refine h_ _ _ ?_; clear h_ K_
   refine wpp fun K_ h_ => ?_; go_simp; refine h_ _ _ ?_; clear h_ K_
   refine wpList_nil ?_
   (try simp only [Exit.then, Exit.inBlock, ↓reduceIte, Nat.reduceEqDiff])
   refine hK23 _ _ ?_
   go_roundg k19
   case measure => exact Nat.lt_succ_self _
   case rel => exact ⟨wrap64 (x10 + 1), (x11 ++ [t40]), P47, q48, (by first | rfl | simp), (by first | rfl | simp), HL56, ⟨by have := hk20.out; omega⟩, ⟨((hu15.out.trans hu45.out).grow hg52.out (fun k hk => Nat.le_trans (Nat.le_refl _) ((fun k hk => (lb54.out k hk).1) k hk)))⟩, ⟨(Nat.le_trans ((Nat.le_trans ((Nat.le_trans (Nat.le_refl _) hz16.out)) hu45.out.size)) hg52.out.size)⟩, h51⟩

set_option maxHeartbeats 40000000 in
set_option maxRecDepth 100000 in
theorem impl_spreadOf.calls (K : Nat) (a0 : Int) (a1 : Int) (a2 : Int) (r0 : Int) (w : World)  (h : impl_spreadOf.f K a0 a1 a2 = some (r0)) :
    Calls Try.prog 94 #[.int .i64 a0, .int .i64 a1, .int .i64 a2] w fun e w' => e = .returned (.int .i64 r0) ∧ Up w w' := by
 have H : (((impl_spreads.f K a0 a1 a2).bind fun t3 => ((idx t3 a1).bind fun t9 => some t9)) : Option (Int)) = some (r0) := h
 clear h
 replace H := Option.bind_eq_some_iff.mp H
 obtain ⟨t3, A6, H⟩ := H
 replace A6 := Aside0.mk A6
 try dsimp only at H
 replace H := Option.bind_eq_some_iff.mp H
 obtain ⟨t9, A10, H⟩ := H
 replace A10 := Aside0.mk A10
 try dsimp only at H
 obtain rfl := Option.some.inj H
 go_enter Try.func94, Try.ntmps94
 refine wp_hide (fun Qf hQf => ?_)
 refine wp_seq_k (fun K1 hK1 => ?_)
 refine wp_region_lit ?_
 refine wpp fun K_ h_ => ?_; go_simp; refine h_ _ _ ?_; clear h_ K_
 refine wpList_nil ?_
 (try simp only [Exit.then, Exit.inBlock, ↓reduceIte, Nat.reduceEqDiff])
 refine hK1 _ _ ?_
 refine wp_seq_k (fun K2 hK2 => ?_)
 refine wp_region_lit ?_
 refine wpp fun K_ h_ => ?_; go_simp; refine h_ _ _ ?_; clear h_ K_
 refine wpp fun K_ h_ => ?_; go_simp; refine h_ _ _ ?_; clear h_ K_
 refine wpp fun K_ h_ => ?_; go_simp; refine h_ _ _ ?_; clear h_ K_
 refine step_call (wanted_none rfl) (by go_simp <;> rfl) (impl_spreads.calls K a0 a1 a2 t3 w  A6.out) ?_
 rintro e w7 ⟨P4, q5, rfl, ht3, hu⟩
 have hu8 := Aside0.mk hu
 clear hu
 refine ⟨_, rfl, ?_⟩
 simp only [Act.put, nm1, nm2, nm3, i64_w]
 refine wpp fun K_ h_ => ?_; go_simp; refine h_ _ _ ?_; clear h_ K_
 refine step_index eI (T := 2) (wanted_none rfl) rfl (by kernel_rfl) (by kernel_rfl) rfl rfl rfl ht3.rd A10.out ?_
 intro ad11 hat he
 have he12 := Aside0.mk he
 have hat13 := Aside0.mk hat
 clear he hat
 simp only [Act.put, nm1, nm2, nm3, i64_w]
 have cl0 := he12.out 0 _ rfl
 rw [addr_add0] at cl0
 refine wpp fun K_ h_ => ?_; go_simp; refine h_ _ _ ?_; clear h_ K_
 clear cl0
 refine wpp fun K_ h_ => ?_; go_simp; refine h_ _ _ ?_; clear h_ K_
 refine wpList_nil ?_
 (try simp only [Exit.then, Exit.inBlock, ↓reduceIte, Nat.reduceEqDiff])
 refine hK2 _ _ ?_
 refine wp_ret ?_
 (try simp only [Exit.then, Exit.inBlock, ↓reduceIte, Nat.reduceEqDiff])
 refine hQf _ _ _ ?_
 exact bodyPost_ret (v := .int .i64 t9) (by first | rfl | (simp [results, Try.results94, go_sem]; done) | (simp [results, Try.results94, go_sem]; rfl)) rfl ⟨rfl, hu8.out⟩

set_option maxHeartbeats 40000000 in
set_option maxRecDepth 100000 in
theorem impl_SpreadPolynomial.calls (K : Nat) (a0 : Int) (a1 : Int) (a2 : Int) (r0 : Int) (r1 : Int) (w : World)  (h : impl_SpreadPolynomial.f K a0 a1 a2 = some (r0, r1)) :
    Calls Try.prog 17 #[.int .i64 a0, .int .i64 a1, .int .i64 a2] w fun e w' => e = .returned (.tuple #[.int .i64 r0, .int .i64 r1]) ∧ Up w w' := by
 have H : (((impl_asked__impl_SpreadPolynomial_1.f K a0 a0 a2 a1).bind fun t13 => (if (t13 == 0) = true then ((impl_spreadOf.f K a0 a1 a2).bind fun t21 => some (t21, 0)) else some (0, t13))) : Option (Int × Int)) = some (r0, r1) := h
 clear h
 replace H := Option.bind_eq_some_iff.mp H
 obtain ⟨t13, A14, H⟩ := H
 replace A14 := Aside0.mk A14
 try dsimp only at H
 go_enter Try.func17, Try.ntmps17
 refine wp_hide (fun Qf hQf => ?_)
 refine wp_seq_k (fun K1 hK1 => ?_)
 refine wp_region_lit ?_
 refine step_new (cs := [.int .i64 a0]) (T := 2) (f := fun b => .pointer (some ⟨b, 0, none⟩)) rfl (by go_simp <;> rfl) ?_
 intro b2 w3 hu lb hb2
 simp only [Act.put, nm1, nm2, nm3, i64_w]
 have lbb2 := Aside0.mk lb
 have ltb2 := Aside0.mk hb2.lt
 clear lb
 have hu4 := Aside0.mk hu
 clear hu
 refine step_new (cs := [.int .i64 a1]) (T := 2) (f := fun b => .pointer (some ⟨b, 0, none⟩)) rfl (by go_simp <;> rfl) ?_
 intro b5 w6 hu lb hb5
 simp only [Act.put, nm1, nm2, nm3, i64_w]
 have lbb5 := Aside0.mk lb
 have ltb5 := Aside0.mk hb5.lt
 clear lb
 have hu7 := Aside0.mk hu
 clear hu
 refine step_new (cs := [.int .i64 a2]) (T := 2) (f := fun b => .pointer (some ⟨b, 0, none⟩)) rfl (by go_simp <;> rfl) ?_
 intro b8 w9 hu lb hb8
 simp only [Act.put, nm1, nm2, nm3, i64_w]
 have lbb8 := Aside0.mk lb
 have ltb8 := Aside0.mk hb8.lt
 clear lb
 have hu10 := Aside0.mk hu
 clear hu
 refine wpp fun K_ h_ => ?_; go_simp; refine h_ _ _ ?_; clear h_ K_
 refine wpp fun K_ h_ => ?_; go_simp; refine h_ _ _ ?_; clear h_ K_
 refine wpList_nil ?_
 (try simp only [Exit.then, Exit.inBlock, ↓reduceIte, Nat.reduceEqDiff])
 refine hK1 _ _ ?_
 refine wp_seq_k (fun K11 hK11 => ?_)
 refine wp_seq_k (fun K12 hK12 => ?_)
 refine wp_region_lit ?_
 have cl0 := (hb2.up (hu7.out.trans hu10.out)).cell (o := 0) rfl
 refine wpp fun K_ h_ => ?_; go_simp; refine h_ _ _ ?_; clear h_ K_
 clear cl0
 refine wpp fun K_ h_ => ?_; go_simp; refine h_ _ _ ?_; clear h_ K_
 refine step_call (wanted_none rfl) (by go_simp <;> rfl) (impl_asked__impl_SpreadPolynomial_1.calls K a0 b2 a0 b8 a2 b5 a1 t13 w9 (hb2.up (hu7.out.trans hu10.out)) hb8 (hb5.up hu10.out) A14.out) ?_
 rintro e w15 ⟨rfl, hu⟩
 have hu16 := Aside0.mk hu
 clear hu
 refine ⟨_, rfl, ?_⟩
 simp only [Act.put, nm1, nm2, nm3, i64_w]
 refine wpp fun K_ h_ => ?_; go_simp; refine h_ _ _ ?_; clear h_ K_
 refine wpList_nil ?_
 (try simp only [Exit.then, Exit.inBlock, ↓reduceIte, Nat.reduceEqDiff])
 refine hK12 _ _ ?_
 refine wp_seq_k (fun K17 hK17 => ?_)
 refine wp_region_lit ?_
 refine wpp fun K_ h_ => ?_; go_simp; refine h_ _ _ ?_; clear h_ K_
 refine wpp fun K_ h_ => ?_; go_simp; refine h_ _ _ ?_; clear h_ K_
 refine wpList_nil ?_
 (try simp only [Exit.then, Exit.inBlock, ↓reduceIte, Nat.reduceEqDiff])
 refine hK17 _ _ ?_
 have hm19 := Aside0.mk (Nat.le_trans ((Nat.le_trans ((Nat.le_trans (hu4.out.size) hu7.out.size)) hu10.out.size)) hu16.out.size)
 by_cases c18 : (t13 == 0) = true
 rotate_left
 ·
  rw [if_neg c18] at H; replace c18 := Bool.eq_false_iff.mpr c18
  have c18n : (t13 != 0) = true := by rw [bne, c18]; rfl
  have c18p : ¬ t13 = 0 := fun e => by simp [e] at c18
  simp only [Option.some.injEq, Prod.mk.injEq] at H
  obtain ⟨rfl, rfl⟩ := H
  try simp only [c18, c18n, Bool.not_true, Bool.not_false]
  refine wp_cond_true rfl ?_
  refine wp_seq_k (fun K25 hK25 => ?_)
  refine wp_region_lit ?_
  refine wpp fun K_ h_ => ?_; go_simp; refine h_ _ _ ?_; clear h_ K_
  refine wpp fun K_ h_ => ?_; go_simp; refine h_ _ _ ?_; clear h_ K_
  refine wpp fun K_ h_ => ?_; go_simp; refine h_ _ _ ?_; clear h_ K_
  refine wpList_nil ?_
  (try simp only [Exit.then, Exit.inBlock, ↓reduceIte, Nat.reduceEqDiff])
  refine hK25 _ _ ?_
  refine wp_ret ?_
  (try simp only [Exit.then, Exit.inBlock, ↓reduceIte, Nat.reduceEqDiff])
  refine hQf _ _ _ ?_
  exact bodyPost_ret (v := .tuple #[.int .i64 0, .int .i64 t13]) (by first | rfl | (simp [results, Try.results17, go_sem]; done) | (simp [results, Try.results17, go_sem]; rfl)) rfl ⟨rfl, (((hu4.out.trans hu7.out).trans hu10.out).trans hu16.out)⟩
 rw [if_pos c18] at H
 have c18n : (t13 != 0) = false := by rw [bne, c18]; rfl
 replace H := Option.bind_eq_some_iff.mp H
 obtain ⟨t21, A22, H⟩ := H
 replace A22 := Aside0.mk A22
 try dsimp only at H
 simp only [Option.some.injEq, Prod.mk.injEq] at H
 obtain ⟨rfl, rfl⟩ := H
 try simp only [c18, c18n, Bool.not_true, Bool.not_false]
 refine wp_cond_false rfl ?_
 refine wp_skip ?_
 (try simp only [Exit.then, Exit.inBlock, ↓reduceIte, Nat.reduceEqDiff])
 refine hK11 _ _ ?_
 refine wp_seq_k (fun K20 hK20 => ?_)
 refine wp_region_lit ?_
 have cl0 := (hb2.up ((hu7.out.trans hu10.out).trans hu16.out)).cell (o := 0) rfl
 refine wpp fun K_ h_ => ?_; go_simp; refine h_ _ _ ?_; clear h_ K_
 clear cl0
 have cl0 := (hb5.up (hu10.out.trans hu16.out)).cell (o := 0) rfl
 refine wpp fun K_ h_ => ?_; go_simp; refine h_ _ _ ?_; clear h_ K_
 clear cl0
 have cl0 := (hb8.up hu16.out).cell (o := 0) rfl
 refine wpp fun K_ h_ => ?_; go_simp; refine h_ _ _ ?_; clear h_ K_
 clear cl0
 refine step_call (wanted_none rfl) (by go_simp <;> rfl) (impl_spreadOf.calls K a0 a1 a2 t21 w15  A22.out) ?_
 rintro e w23 ⟨rfl, hu⟩
 have hu24 := Aside0.mk hu
 clear hu
 refine ⟨_, rfl, ?_⟩
 simp only [Act.put, nm1, nm2, nm3, i64_w]
 refine wpp fun K_ h_ => ?_; go_simp; refine h_ _ _ ?_; clear h_ K_
 refine wpp fun K_ h_ => ?_; go_simp; refine h_ _ _ ?_; clear h_ K_
 refine wpList_nil ?_
 (try simp only [Exit.then, Exit.inBlock, ↓reduceIte, Nat.reduceEqDiff])
 refine hK20 _ _ ?_
 refine wp_ret ?_
 (try simp only [Exit.then, Exit.inBlock, ↓reduceIte, Nat.reduceEqDiff])
 refine hQf _ _ _ ?_
 exact bodyPost_ret (v := .tuple #[.int .i64 t21, .int .i64 0]) (by first | rfl | (simp [results, Try.results17, go_sem]; done) | (simp [results, Try.results17, go_sem]; rfl)) rfl ⟨rfl, ((((hu4.out.trans hu7.out).trans hu10.out).trans hu16.out).trans hu24.out)⟩

set_option maxHeartbeats 40000000 in
set_option maxRecDepth 100000 in
theorem spec_l01In.calls (K : Nat) (a0 : Int) (a1 : Int) (a2 : Int) (r0 : Bool) (w : World)  (h : spec_l01In.f K a0 a1 a2 = some (r0)) :
    Calls Try.prog 182 #[.int .i64 a0, .int .i64 a1, .int .i64 a2] w fun e w' => e = .returned (.bool r0) ∧ Up w w' := by
 have H : ((if decide (a1 ≤ a0) = true then some (decide (a0 ≤ a2)) else some false) : Option (Bool)) = some (r0) := h
 clear h
 go_enter Try.func182, Try.ntmps182
 refine wp_hide (fun Qf hQf => ?_)
 refine wp_seq_k (fun K1 hK1 => ?_)
 refine wp_region_lit ?_
 refine wpp fun K_ h_ => ?_; go_simp; refine h_ _ _ ?_; clear h_ K_
 refine wpList_nil ?_
 (try simp only [Exit.then, Exit.inBlock, ↓reduceIte, Nat.reduceEqDiff])
 refine hK1 _ _ ?_
 refine wp_seq_k (fun K2 hK2 => ?_)
 refine wp_region_lit ?_
 refine wpp fun K_ h_ => ?_; go_simp; refine h_ _ _ ?_; clear h_ K_
 refine wpp fun K_ h_ => ?_; go_simp; refine h_ _ _ ?_; clear h_ K_
 refine wpp fun K_ h_ => ?_; go_simp; refine h_ _ _ ?_; clear h_ K_
 refine wpp fun K_ h_ => ?_; go_simp; refine h_ _ _ ?_; clear h_ K_
 by_cases c3 : (decide (a1 ≤ a0)) = true
 ·
  rw [if_pos c3] at H
  obtain rfl := Option.some.inj H
  try simp only [c3, Bool.not_true, Bool.not_false]
  refine wpList_step fun K_ h_ => ?_; go_simp; refine h_ _ _ ?_; clear h_ K_
  refine wpList_step fun K_ h_ => ?_; go_simp; refine h_ _ _ ?_; clear h_ K_
  refine wpList_step fun K_ h_ => ?_; go_simp; refine h_ _ _ ?_; clear h_ K_
  refine wpp fun K_ h_ => ?_; go_simp; refine h_ _ _ ?_; clear h_ K_
  refine wpp fun K_ h_ => ?_; go_simp; refine h_ _ _ ?_; clear h_ K_
  refine wpList_nil ?_
  (try simp only [Exit.then, Exit.inBlock, ↓reduceIte, Nat.reduceEqDiff])
  refine hK2 _ _ ?_
  refine wp_ret ?_
  (try simp only [Exit.then, Exit.inBlock, ↓reduceIte, Nat.reduceEqDiff])
  refine hQf _ _ _ ?_
  exact bodyPost_ret (v := .bool (decide (a0 ≤ a2))) (by first | rfl | (simp [results, Try.results182, go_sem]; done) | (simp [results, Try.results182, go_sem]; rfl)) rfl ⟨rfl, (Up.refl _)⟩
 rw [if_neg c3] at H; replace c3 := Bool.eq_false_iff.mpr c3
 obtain rfl := Option.some.inj H
 try simp only [c3, Bool.not_true, Bool.not_false]
 refine step_no rfl ?_
 simp only [Act.put, nm1, nm2, nm3, i64_w]
 refine step_no rfl ?_
 simp only [Act.put, nm1, nm2, nm3, i64_w]
 refine step_no rfl ?_
 simp only [Act.put, nm1, nm2, nm3, i64_w]
 refine wpp fun K_ h_ => ?_; go_simp; refine h_ _ _ ?_; clear h_ K_
 refine wpp fun K_ h_ => ?_; go_simp; refine h_ _ _ ?_; clear h_ K_
 refine wpList_nil ?_
 (try simp only [Exit.then, Exit.inBlock, ↓reduceIte, Nat.reduceEqDiff])
 refine hK2 _ _ ?_
 refine wp_ret ?_
 (try simp only [Exit.then, Exit.inBlock, ↓reduceIte, Nat.reduceEqDiff])
 refine hQf _ _ _ ?_
 exact bodyPost_ret (v := .bool false) (by first | rfl | (simp [results, Try.results182, go_sem]; done) | (simp [results, Try.results182, go_sem]; rfl)) rfl ⟨rfl, (Up.refl _)⟩

set_option maxHeartbeats 40000000 in
set_option maxRecDepth 100000 in
theorem spec_l01Field.calls (K : Nat) (a0 : Int) (r0 : Bool) (w : World)  (h : spec_l01Field.f K a0 = some (r0)) :
    Calls Try.prog 200 #[.int .i64 a0] w fun e w' => e = .returned (.bool r0) ∧ Up w w' := by
 have H : (((spec_l01In.f K a0 3 31).bind fun t4 => (if t4 = true then (spec_l01Field.l0 K a0 K 2) else some false)) : Option (Bool)) = some (r0) := h
 clear h
 replace H := Option.bind_eq_some_iff.mp H
 obtain ⟨t4, A5, H⟩ := H
 replace A5 := Aside0.mk A5
 try dsimp only at H
 go_enter Try.func200, Try.ntmps200
 refine wp_hide (fun Qf hQf => ?_)
 refine wp_seq_k (fun K1 hK1 => ?_)
 refine wp_region_lit ?_
 refine wpp fun K_ h_ => ?_; go_simp; refine h_ _ _ ?_; clear h_ K_
 refine wpList_nil ?_
 (try simp only [Exit.then, Exit.inBlock, ↓reduceIte, Nat.reduceEqDiff])
 refine hK1 _ _ ?_
 refine wp_seq_k (fun K2 hK2 => ?_)
 refine wp_seq_k (fun K3 hK3 => ?_)
 refine wp_region_lit ?_
 refine wpp fun K_ h_ => ?_; go_simp; refine h_ _ _ ?_; clear h_ K_
 refine step_call (wanted_none rfl) (by go_simp <;> rfl) (spec_l01In.calls K a0 3 31 t4 w  A5.out) ?_
 rintro e w6 ⟨rfl, hu⟩
 have hu7 := Aside0.mk hu
 clear hu
 refine ⟨_, rfl, ?_⟩
 simp only [Act.put, nm1, nm2, nm3, i64_w]
 refine wpp fun K_ h_ => ?_; go_simp; refine h_ _ _ ?_; clear h_ K_
 refine wpList_nil ?_
 (try simp only [Exit.then, Exit.inBlock, ↓reduceIte, Nat.reduceEqDiff])
 refine hK3 _ _ ?_
 by_cases c8 : (t4) = true
 rotate_left
 ·
  rw [if_neg c8] at H; replace c8 := Bool.eq_false_iff.mpr c8
  subst c8
  obtain rfl := Option.some.inj H
  refine wp_cond_true rfl ?_
  refine wp_seq_k (fun K31 hK31 => ?_)
  refine wp_region_lit ?_
  refine wpp fun K_ h_ => ?_; go_simp; refine h_ _ _ ?_; clear h_ K_
  refine wpList_nil ?_
  (try simp only [Exit.then, Exit.inBlock, ↓reduceIte, Nat.reduceEqDiff])
  refine hK31 _ _ ?_
  refine wp_ret ?_
  (try simp only [Exit.then, Exit.inBlock, ↓reduceIte, Nat.reduceEqDiff])
  refine hQf _ _ _ ?_
  exact bodyPost_ret (v := .bool false) (by first | rfl | (simp [results, Try.results200, go_sem]; done) | (simp [results, Try.results200, go_sem]; rfl)) rfl ⟨rfl, hu7.out⟩
 rw [if_pos c8] at H
 subst c8
 refine wp_cond_false rfl ?_
 refine wp_skip ?_
 (try simp only [Exit.then, Exit.inBlock, ↓reduceIte, Nat.reduceEqDiff])
 refine hK2 _ _ ?_
 refine wp_seq_k (fun K9 hK9 => ?_)
 refine wp_seq_k (fun K10 hK10 => ?_)
 refine wp_region_lit ?_
 refine wpp fun K_ h_ => ?_; go_simp; refine h_ _ _ ?_; clear h_ K_
 refine wpList_nil ?_
 (try simp only [Exit.then, Exit.inBlock, ↓reduceIte, Nat.reduceEqDiff])
 refine hK10 _ _ ?_
 refine wp_block ?_
 have HL15 := Aside0.mk H
 clear H
 go_loopg [3] K (fun kq v3 w' => ∃ (x11 : Int), v3 = .int .i64 x11 ∧ Aside0 (spec_l01Field.l0 K a0 kq x11 = some (r0)) ∧ Aside0 (kq ≤ K) ∧ Aside0 (Up w6 w') ∧ Aside0 (w6.heap.size ≤ w'.heap.size))
 case atStart => exact ⟨2, (by first | rfl | simp), HL15, ⟨Nat.le_refl _⟩, ⟨(Up.refl _)⟩, ⟨Nat.le_refl _⟩⟩
 case round =>
  rename_i J19 K20 hJ19 hK20
  obtain ⟨x11, rfl, HL18, hk17, hu13, hz14⟩ := hrel
  obtain ⟨w12, rfl⟩ : ∃ wo : World, wo = wr := ⟨_, rfl⟩
  obtain ⟨k16, rfl⟩ | rfl : (∃ k, gk = k + 1) ∨ gk = 0 := by rcases gk with _ | k; exact .inr rfl; exact .inl ⟨k, rfl⟩
  case inr => exact absurd HL18.out (by simp [spec_l01Field.l0])
  have H := HL18.out
  clear HL18
  rw [spec_l01Field.l0] at H
  refine wp_seq_k (fun K21 hK21 => ?_)
  refine wp_seq_k (fun K22 hK22 => ?_)
  refine wp_region_lit ?_
  refine wpp fun K_ h_ => ?_; go_simp; refine h_ _ _ ?_; clear h_ K_
  refine wpp fun K_ h_ => ?_; go_simp; refine h_ _ _ ?_; clear h_ K_
  refine wpp fun K_ h_ => ?_; go_simp; refine h_ _ _ ?_; clear h_ K_
  refine wpp fun K_ h_ => ?_; go_simp; refine h_ _ _ ?_; clear h_ K_
  refine wpp fun K_ h_ => ?_; go_simp; refine h_ _ _ ?_; clear h_ K_
  refine wpList_nil ?_
  (try simp only [Exit.then, Exit.inBlock, ↓reduceIte, Nat.reduceEqDiff])
  refine hK22 _ _ ?_
  by_cases c23 : (decide ((wrap64 (x11 * x11)) ≤ a0)) = true
  rotate_left
  ·
   rw [if_neg c23] at H; replace c23 := Bool.eq_false_iff.mpr c23
   obtain rfl := Option.some.inj H
   try simp only [c23, Bool.not_true, Bool.not_false]
   refine wp_cond_false rfl ?_
   refine wp_exit ?_
   (try simp only [Exit.then, Exit.inBlock, ↓reduceIte, Nat.reduceEqDiff])
   refine hK9 _ _ ?_
   refine wp_seq_k (fun K30 hK30 => ?_)
   refine wp_region_lit ?_
   refine wpp fun K_ h_ => ?_; go_simp; refine h_ _ _ ?_; clear h_ K_
   refine wpList_nil ?_
   (try simp only [Exit.then, Exit.inBlock, ↓reduceIte, Nat.reduceEqDiff])
   refine hK30 _ _ ?_
   refine wp_ret ?_
   (try simp only [Exit.then, Exit.inBlock, ↓reduceIte, Nat.reduceEqDiff])
   refine hQf _ _ _ ?_
   exact bodyPost_ret (v := .bool true) (by first | rfl | (simp [results, Try.results200, go_sem]; done) | (simp [results, Try.results200, go_sem]; rfl)) rfl ⟨rfl, (hu7.out.trans hu13.out)⟩
  rw [if_pos c23] at H
  try simp only [c23, Bool.not_true, Bool.not_false]
  refine wp_cond_true rfl ?_
  refine wp_skip ?_
  (try simp only [Exit.then, Exit.inBlock, ↓reduceIte, Nat.reduceEqDiff])
  refine hK21 _ _ ?_
  refine wp_seq_k (fun K24 hK24 => ?_)
  refine wp_block ?_
  refine wp_seq_k (fun K25 hK25 => ?_)
  refine wp_region_lit ?_
  refine wpp fun K_ h_ => ?_; go_simp; refine h_ _ _ ?_; clear h_ K_
  refine wpp fun K_ h_ => ?_; go_simp; refine h_ _ _ ?_; clear h_ K_
  by_cases c26 : (x11 == 0) = true
  ·
   rw [if_pos c26] at H
   have c26n : (x11 != 0) = false := by rw [bne, c26]; rfl
   exact absurd H (by simp)
  rw [if_neg c26] at H; replace c26 := Bool.eq_false_iff.mpr c26
  have c26n : (x11 != 0) = true := by rw [bne, c26]; rfl
  have c26p : ¬ x11 = 0 := fun e => by simp [e] at c26
  try simp only [c26, c26n, Bool.not_true, Bool.not_false]
  refine wpp fun K_ h_ => ?_; go_simp; refine h_ _ _ ?_; clear h_ K_
  refine wpp fun K_ h_ => ?_; go_simp; refine h_ _ _ ?_; clear h_ K_
  refine wpList_nil ?_
  (try simp only [Exit.then, Exit.inBlock, ↓reduceIte, Nat.reduceEqDiff])
  refine hK25 _ _ ?_
  by_cases c27 : ((Int.tmod a0 x11) == 0) = true
  ·
   rw [if_pos c27] at H
   have c27n : ((Int.tmod a0 x11) != 0) = false := by rw [bne, c27]; rfl
   obtain rfl := Option.some.inj H
   try simp only [c27, c27n, Bool.not_true, Bool.not_false]
   refine wp_cond_true rfl ?_
   refine wp_seq_k (fun K28 hK28 => ?_)
   refine wp_region_lit ?_
   refine wpp fun K_ h_ => ?_; go_simp; refine h_ _ _ ?_; clear h_ K_
   refine wpList_nil ?_
   (try simp only [Exit.then, Exit.inBlock, ↓reduceIte, Nat.reduceEqDiff])
   refine hK28 _ _ ?_
   refine wp_ret ?_
   (try simp only [Exit.then, Exit.inBlock, ↓reduceIte, Nat.reduceEqDiff])
   refine hQf _ _ _ ?_
   exact bodyPost_ret (v := .bool false) (by first | rfl | (simp [results, Try.results200, go_sem]; done) | (simp [results, Try.results200, go_sem]; rfl)) rfl ⟨rfl, (hu7.out.trans hu13.out)⟩
  rw [if_neg c27] at H; replace c27 := Bool.eq_false_iff.mpr c27
  have c27n : ((Int.tmod a0 x11) != 0) = true := by rw [bne, c27]; rfl
  have c27p : ¬ (Int.tmod a0 x11) = 0 := fun e => by simp [e] at c27
  have HL29 := Aside0.mk H
  clear H
  try simp only [c27, c27n, Bool.not_true, Bool.not_false]
  refine wp_cond_false rfl ?_
  refine wp_skip ?_
  (try simp only [Exit.then, Exit.inBlock, ↓reduceIte, Nat.reduceEqDiff])
  refine hK24 _ _ ?_
  refine wp_region_lit ?_
  refine wpp fun K_ h_ => ?_; go_simp; refine h_ _ _ ?_; clear h_ K_
  refine wpp fun K_ h_ => ?_; go_simp; refine h_ _ _ ?_; clear h_ K_
  refine wpp fun K_ h_ => ?_; go_simp; refine h_ _ _ ?_; clear h_ K_
  refine wpList_nil ?_
  (try simp only [Exit.then, Exit.inBlock, ↓reduceIte, Nat.reduceEqDiff])
  refine hK20 _ _ ?_
  go_roundg k16
  case measure => exact Nat.lt_succ_self _
  case rel => exact ⟨wrap64 (x11 + 1), (by first | rfl | simp), HL29, ⟨by have := hk17.out; omega⟩, ⟨hu13.out⟩, ⟨(Nat.le_trans (Nat.le_refl _) hz14.out)⟩⟩

set_option maxHeartbeats 40000000 in
set_option maxRecDepth 100000 in
theorem spec_l01Numbers.calls (K : Nat) (a0 : Int) (a1_A : Option Addr) (a1_c : Nat) (a1 : List (Int)) (r0 : Int) (w : World) (ha1 : Rd eI w a1_A a1) (h : spec_l01Numbers.f K a0 a1 = some (r0)) :
    Calls Try.prog 181 #[.int .i64 a0, .slice a1_A a1.length a1_c] w fun e w' => e = .returned (.int .i64 r0) ∧ Up w w' := by
 have H : (((spec_l01Field.f K a0).bind fun t4 => (if t4 = true then (spec_l01Numbers.l0 K a0 a1 K 0) else some 1)) : Option (Int)) = some (r0) := h
 clear h
 replace H := Option.bind_eq_some_iff.mp H
 obtain ⟨t4, A5, H⟩ := H
 replace A5 := Aside0.mk A5
 try dsimp only at H
 go_enter Try.func181, Try.ntmps181
 refine wp_hide (fun Qf hQf => ?_)
 refine wp_seq_k (fun K1 hK1 => ?_)
 refine wp_region_lit ?_
 refine wpp fun K_ h_ => ?_; go_simp; refine h_ _ _ ?_; clear h_ K_
 refine wpList_nil ?_
 (try simp only [Exit.then, Exit.inBlock, ↓reduceIte, Nat.reduceEqDiff])
 refine hK1 _ _ ?_
 refine wp_seq_k (fun K2 hK2 => ?_)
 refine wp_seq_k (fun K3 hK3 => ?_)
 refine wp_region_lit ?_
 refine wpp fun K_ h_ => ?_; go_simp; refine h_ _ _ ?_; clear h_ K_
 refine step_call (wanted_none rfl) (by go_simp <;> rfl) (spec_l01Field.calls K a0 t4 w  A5.out) ?_
 rintro e w6 ⟨rfl, hu⟩
 have hu7 := Aside0.mk hu
 clear hu
 refine ⟨_, rfl, ?_⟩
 simp only [Act.put, nm1, nm2, nm3, i64_w]
 refine wpp fun K_ h_ => ?_; go_simp; refine h_ _ _ ?_; clear h_ K_
 refine wpList_nil ?_
 (try simp only [Exit.then, Exit.inBlock, ↓reduceIte, Nat.reduceEqDiff])
 refine hK3 _ _ ?_
 by_cases c8 : (t4) = true
 rotate_left
 ·
  rw [if_neg c8] at H; replace c8 := Bool.eq_false_iff.mpr c8
  subst c8
  obtain rfl := Option.some.inj H
  refine wp_cond_true rfl ?_
  refine wp_seq_k (fun K39 hK39 => ?_)
  refine wp_region_lit ?_
  refine wpp fun K_ h_ => ?_; go_simp; refine h_ _ _ ?_; clear h_ K_
  refine wpList_nil ?_
  (try simp only [Exit.then, Exit.inBlock, ↓reduceIte, Nat.reduceEqDiff])
  refine hK39 _ _ ?_
  refine wp_ret ?_
  (try simp only [Exit.then, Exit.inBlock, ↓reduceIte, Nat.reduceEqDiff])
  refine hQf _ _ _ ?_
  exact bodyPost_ret (v := .int .i64 1) (by first | rfl | (simp [results, Try.results181, go_sem]; done) | (simp [results, Try.results181, go_sem]; rfl)) rfl ⟨rfl, hu7.out⟩
 rw [if_pos c8] at H
 subst c8
 refine wp_cond_false rfl ?_
 refine wp_skip ?_
 (try simp only [Exit.then, Exit.inBlock, ↓reduceIte, Nat.reduceEqDiff])
 refine hK2 _ _ ?_
 refine wp_seq_k (fun K9 hK9 => ?_)
 refine wp_seq_k (fun K10 hK10 => ?_)
 refine wp_region_lit ?_
 refine wpp fun K_ h_ => ?_; go_simp; refine h_ _ _ ?_; clear h_ K_
 refine wpList_nil ?_
 (try simp only [Exit.then, Exit.inBlock, ↓reduceIte, Nat.reduceEqDiff])
 refine hK10 _ _ ?_
 refine wp_block ?_
 have HL15 := Aside0.mk H
 clear H
 go_loopg [5] K (fun kq v5 w' => ∃ (x11 : Int), v5 = .int .i64 x11 ∧ Aside0 (spec_l01Numbers.l0 K a0 a1 kq x11 = some (r0)) ∧ Aside0 (kq ≤ K) ∧ Aside0 (Up w6 w') ∧ Aside0 (w6.heap.size ≤ w'.heap.size))
 case atStart => exact ⟨0, (by first | rfl | simp), HL15, ⟨Nat.le_refl _⟩, ⟨(Up.refl _)⟩, ⟨Nat.le_refl _⟩⟩
 case round =>
  rename_i J19 K20 hJ19 hK20
  obtain ⟨x11, rfl, HL18, hk17, hu13, hz14⟩ := hrel
  obtain ⟨w12, rfl⟩ : ∃ wo : World, wo = wr := ⟨_, rfl⟩
  obtain ⟨k16, rfl⟩ | rfl : (∃ k, gk = k + 1) ∨ gk = 0 := by rcases gk with _ | k; exact .inr rfl; exact .inl ⟨k, rfl⟩
  case inr => exact absurd HL18.out (by simp [spec_l01Numbers.l0])
  have H := HL18.out
  clear HL18
  rw [spec_l01Numbers.l0] at H
  refine wp_seq_k (fun K21 hK21 => ?_)
  refine wp_seq_k (fun K22 hK22 => ?_)
  refine wp_region_lit ?_
  refine wpp fun K_ h_ => ?_; go_simp; refine h_ _ _ ?_; clear h_ K_
  refine wpp fun K_ h_ => ?_; go_simp; refine h_ _ _ ?_; clear h_ K_
  refine wpp fun K_ h_ => ?_; go_simp; refine h_ _ _ ?_; clear h_ K_
  refine wpp fun K_ h_ => ?_; go_simp; refine h_ _ _ ?_; clear h_ K_
  refine wpList_nil ?_
  (try simp only [Exit.then, Exit.inBlock, ↓reduceIte, Nat.reduceEqDiff])
  refine hK22 _ _ ?_
  by_cases c23 : (decide (x11 < (a1.length : Int))) = true
  rotate_left
  ·
   rw [if_neg c23] at H; replace c23 := Bool.eq_false_iff.mpr c23
   obtain rfl := Option.some.inj H
   try simp only [c23, Bool.not_true, Bool.not_false]
   refine wp_cond_false rfl ?_
   refine wp_exit ?_
   (try simp only [Exit.then, Exit.inBlock, ↓reduceIte, Nat.reduceEqDiff])
   refine hK9 _ _ ?_
   refine wp_seq_k (fun K38 hK38 => ?_)
   refine wp_region_lit ?_
   refine wpp fun K_ h_ => ?_; go_simp; refine h_ _ _ ?_; clear h_ K_
   refine wpList_nil ?_
   (try simp only [Exit.then, Exit.inBlock, ↓reduceIte, Nat.reduceEqDiff])
   refine hK38 _ _ ?_
   refine wp_ret ?_
   (try simp only [Exit.then, Exit.inBlock, ↓reduceIte, Nat.reduceEqDiff])
   refine hQf _ _ _ ?_
   exact bodyPost_ret (v := .int .i64 0) (by first | rfl | (simp [results, Try.results181, go_sem]; done) | (simp [results, Try.results181, go_sem]; rfl)) rfl ⟨rfl, (hu7.out.trans hu13.out)⟩
  rw [if_pos c23] at H
  replace H := Option.bind_eq_some_iff.mp H
  obtain ⟨t26, A27, H⟩ := H
  replace A27 := Aside0.mk A27
  try dsimp only at H
  replace H := Option.bind_eq_some_iff.mp H
  obtain ⟨t31, A32, H⟩ := H
  replace A32 := Aside0.mk A32
  try dsimp only at H
  try simp only [c23, Bool.not_true, Bool.not_false]
  refine wp_cond_true rfl ?_
  refine wp_skip ?_
  (try simp only [Exit.then, Exit.inBlock, ↓reduceIte, Nat.reduceEqDiff])
  refine hK21 _ _ ?_
  refine wp_seq_k (fun K24 hK24 => ?_)
  refine wp_block ?_
  refine wp_seq_k (fun K25 hK25 => ?_)
  refine wp_region_lit ?_
  refine wpp fun K_ h_ => ?_; go_simp; refine h_ _ _ ?_; clear h_ K_
  refine wpp fun K_ h_ => ?_; go_simp; refine h_ _ _ ?_; clear h_ K_
  refine step_index eI (T := 2) (wanted_none rfl) rfl (by kernel_rfl) (by kernel_rfl) rfl rfl rfl (ha1.up (hu7.out.trans hu13.out)) A27.out ?_
  intro ad28 hat he
  have he29 := Aside0.mk he
  have hat30 := Aside0.mk hat
  clear he hat
  simp only [Act.put, nm1, nm2, nm3, i64_w]
  have cl0 := he29.out 0 _ rfl
  rw [addr_add0] at cl0
  refine wpp fun K_ h_ => ?_; go_simp; refine h_ _ _ ?_; clear h_ K_
  clear cl0
  refine wpp fun K_ h_ => ?_; go_simp; refine h_ _ _ ?_; clear h_ K_
  refine wpp fun K_ h_ => ?_; go_simp; refine h_ _ _ ?_; clear h_ K_
  refine step_call (wanted_none rfl) (by go_simp <;> rfl) (spec_l01In.calls K t26 0 (wrap64 (a0 - 1)) t31 w12  A32.out) ?_
  rintro e w33 ⟨rfl, hu⟩
  have hu34 := Aside0.mk hu
  clear hu
  refine ⟨_, rfl, ?_⟩
  simp only [Act.put, nm1, nm2, nm3, i64_w]
  refine wpp fun K_ h_ => ?_; go_simp; refine h_ _ _ ?_; clear h_ K_
  refine wpList_nil ?_
  (try simp only [Exit.then, Exit.inBlock, ↓reduceIte, Nat.reduceEqDiff])
  refine hK25 _ _ ?_
  by_cases c35 : (t31) = true
  rotate_left
  ·
   rw [if_neg c35] at H; replace c35 := Bool.eq_false_iff.mpr c35
   subst c35
   obtain rfl := Option.some.inj H
   refine wp_cond_true rfl ?_
   refine wp_seq_k (fun K37 hK37 => ?_)
   refine wp_region_lit ?_
   refine wpp fun K_ h_ => ?_; go_simp; refine h_ _ _ ?_; clear h_ K_
   refine wpList_nil ?_
   (try simp only [Exit.then, Exit.inBlock, ↓reduceIte, Nat.reduceEqDiff])
   refine hK37 _ _ ?_
   refine wp_ret ?_
   (try simp only [Exit.then, Exit.inBlock, ↓reduceIte, Nat.reduceEqDiff])
   refine hQf _ _ _ ?_
   exact bodyPost_ret (v := .int .i64 2) (by first | rfl | (simp [results, Try.results181, go_sem]; done) | (simp [results, Try.results181, go_sem]; rfl)) rfl ⟨rfl, ((hu7.out.trans hu13.out).trans hu34.out)⟩
  rw [if_pos c35] at H
  subst c35
  have HL36 := Aside0.mk H
  clear H
  refine wp_cond_false rfl ?_
  refine wp_skip ?_
  (try simp only [Exit.then, Exit.inBlock, ↓reduceIte, Nat.reduceEqDiff])
  refine hK24 _ _ ?_
  refine wp_region_lit ?_
  refine wpp fun K_ h_ => ?_; go_simp; refine h_ _ _ ?_; clear h_ K_
  refine wpp fun K_ h_ => ?_; go_simp; refine h_ _ _ ?_; clear h_ K_
  refine wpp fun K_ h_ => ?_; go_simp; refine h_ _ _ ?_; clear h_ K_
  refine wpList_nil ?_
  (try simp only [Exit.then, Exit.inBlock, ↓reduceIte, Nat.reduceEqDiff])
  refine hK20 _ _ ?_
  go_roundg k16
  case measure => exact Nat.lt_succ_self _
  case rel => exact ⟨wrap64 (x11 + 1), (by first | rfl | simp), HL36, ⟨by have := hk17.out; omega⟩, ⟨(hu13.out.trans hu34.out)⟩, ⟨(Nat.le_trans ((Nat.le_trans (Nat.le_refl _) hz14.out)) hu34.out.size)⟩⟩

set_option maxHeartbeats 40000000 in
set_option maxRecDepth 100000 in
theorem spec_l05Code.calls (K : Nat) (a0 : Int) (a1 : Int) (a2_A : Option Addr) (a2_c : Nat) (a2 : List (Int)) (r0 : Int) (w : World) (ha2 : Rd eI w a2_A a2) (h : spec_l05Code.f K a0 a1 a2 = some (r0)) :
    Calls Try.prog 95 #[.int .i64 a0, .int .i64 a1, .slice a2_A a2.length a2_c] w fun e w' => e = .returned (.int .i64 r0) ∧ Up w w' := by
 have H : (((spec_l01Numbers.f K a0 a2).bind fun t3 => (if (t3 == 0) = true then ((spec_l01In.f K a1 0 1000).bind fun t10 => (if t10 = true then some t3 else some 2)) else some t3)) : Option (Int)) = some (r0) := h
 clear h
 replace H := Option.bind_eq_some_iff.mp H
 obtain ⟨t3, A4, H⟩ := H
 replace A4 := Aside0.mk A4
 try dsimp only at H
 go_enter Try.func95, Try.ntmps95
 refine wp_hide (fun Qf hQf => ?_)
 refine wp_seq_k (fun K1 hK1 => ?_)
 refine wp_region_lit ?_
 refine wpp fun K_ h_ => ?_; go_simp; refine h_ _ _ ?_; clear h_ K_
 refine wpList_nil ?_
 (try simp only [Exit.then, Exit.inBlock, ↓reduceIte, Nat.reduceEqDiff])
 refine hK1 _ _ ?_
 refine wp_seq_k (fun K2 hK2 => ?_)
 refine wp_region_lit ?_
 refine wpp fun K_ h_ => ?_; go_simp; refine h_ _ _ ?_; clear h_ K_
 refine wpp fun K_ h_ => ?_; go_simp; refine h_ _ _ ?_; clear h_ K_
 refine step_call (wanted_none rfl) (by go_simp <;> rfl) (spec_l01Numbers.calls K a0 a2_A a2_c a2 t3 w ha2 A4.out) ?_
 rintro e w5 ⟨rfl, hu⟩
 have hu6 := Aside0.mk hu
 clear hu
 refine ⟨_, rfl, ?_⟩
 simp only [Act.put, nm1, nm2, nm3, i64_w]
 refine wpp fun K_ h_ => ?_; go_simp; refine h_ _ _ ?_; clear h_ K_
 refine wpList_nil ?_
 (try simp only [Exit.then, Exit.inBlock, ↓reduceIte, Nat.reduceEqDiff])
 refine hK2 _ _ ?_
 refine wp_seq_k (fun K7 hK7 => ?_)
 refine wp_seq_k (fun K8 hK8 => ?_)
 refine wp_region_lit ?_
 refine wpp fun K_ h_ => ?_; go_simp; refine h_ _ _ ?_; clear h_ K_
 refine wpp fun K_ h_ => ?_; go_simp; refine h_ _ _ ?_; clear h_ K_
 refine wpp fun K_ h_ => ?_; go_simp; refine h_ _ _ ?_; clear h_ K_
 by_cases c9 : (t3 == 0) = true
 rotate_left
 ·
  rw [if_neg c9] at H; replace c9 := Bool.eq_false_iff.mpr c9
  have c9n : (t3 != 0) = true := by rw [bne, c9]; rfl
  have c9p : ¬ t3 = 0 := fun e => by simp [e] at c9
  obtain rfl := Option.some.inj H
  try simp only [c9, c9n, Bool.not_true, Bool.not_false]
  refine step_no rfl ?_
  simp only [Act.put, nm1, nm2, nm3, i64_w]
  refine step_no rfl ?_
  simp only [Act.put, nm1, nm2, nm3, i64_w]
  refine step_no rfl ?_
  simp only [Act.put, nm1, nm2, nm3, i64_w]
  refine wpp fun K_ h_ => ?_; go_simp; refine h_ _ _ ?_; clear h_ K_
  refine wpList_nil ?_
  (try simp only [Exit.then, Exit.inBlock, ↓reduceIte, Nat.reduceEqDiff])
  refine hK8 _ _ ?_
  refine wp_cond_false rfl ?_
  refine wp_skip ?_
  (try simp only [Exit.then, Exit.inBlock, ↓reduceIte, Nat.reduceEqDiff])
  refine hK7 _ _ ?_
  refine wp_seq_k (fun K17 hK17 => ?_)
  refine wp_region_lit ?_
  refine wpp fun K_ h_ => ?_; go_simp; refine h_ _ _ ?_; clear h_ K_
  refine wpp fun K_ h_ => ?_; go_simp; refine h_ _ _ ?_; clear h_ K_
  refine wpList_nil ?_
  (try simp only [Exit.then, Exit.inBlock, ↓reduceIte, Nat.reduceEqDiff])
  refine hK17 _ _ ?_
  refine wp_ret ?_
  (try simp only [Exit.then, Exit.inBlock, ↓reduceIte, Nat.reduceEqDiff])
  refine hQf _ _ _ ?_
  exact bodyPost_ret (v := .int .i64 t3) (by first | rfl | (simp [results, Try.results95, go_sem]; done) | (simp [results, Try.results95, go_sem]; rfl)) rfl ⟨rfl, hu6.out⟩
 rw [if_pos c9] at H
 have c9n : (t3 != 0) = false := by rw [bne, c9]; rfl
 replace H := Option.bind_eq_some_iff.mp H
 obtain ⟨t10, A11, H⟩ := H
 replace A11 := Aside0.mk A11
 try dsimp only at H
 try simp only [c9, c9n, Bool.not_true, Bool.not_false]
 refine wpList_step fun K_ h_ => ?_; go_simp; refine h_ _ _ ?_; clear h_ K_
 refine step_call rfl (by go_simp <;> rfl) (spec_l01In.calls K a1 0 1000 t10 w5  A11.out) ?_
 rintro e w12 ⟨rfl, hu⟩
 have hu13 := Aside0.mk hu
 clear hu
 refine ⟨_, rfl, ?_⟩
 simp only [Act.put, nm1, nm2, nm3, i64_w]
 refine wpList_step fun K_ h_ => ?_; go_simp; refine h_ _ _ ?_; clear h_ K_
 refine wpp fun K_ h_ => ?_; go_simp; refine h_ _ _ ?_; clear h_ K_
 refine wpList_nil ?_
 (try simp only [Exit.then, Exit.inBlock, ↓reduceIte, Nat.reduceEqDiff])
 refine hK8 _ _ ?_
 by_cases c14 : (t10) = true
 ·
  rw [if_pos c14] at H
  subst c14
  obtain rfl := Option.some.inj H
  refine wp_cond_false rfl ?_
  refine wp_skip ?_
  (try simp only [Exit.then, Exit.inBlock, ↓reduceIte, Nat.reduceEqDiff])
  refine hK7 _ _ ?_
  refine wp_seq_k (fun K15 hK15 => ?_)
  refine wp_region_lit ?_
  refine wpp fun K_ h_ => ?_; go_simp; refine h_ _ _ ?_; clear h_ K_
  refine wpp fun K_ h_ => ?_; go_simp; refine h_ _ _ ?_; clear h_ K_
  refine wpList_nil ?_
  (try simp only [Exit.then, Exit.inBlock, ↓reduceIte, Nat.reduceEqDiff])
  refine hK15 _ _ ?_
  refine wp_ret ?_
  (try simp only [Exit.then, Exit.inBlock, ↓reduceIte, Nat.reduceEqDiff])
  refine hQf _ _ _ ?_
  exact bodyPost_ret (v := .int .i64 t3) (by first | rfl | (simp [results, Try.results95, go_sem]; done) | (simp [results, Try.results95, go_sem]; rfl)) rfl ⟨rfl, (hu6.out.trans hu13.out)⟩
 rw [if_neg c14] at H; replace c14 := Bool.eq_false_iff.mpr c14
 subst c14
 obtain rfl := Option.some.inj H
 refine wp_cond_true rfl ?_
 refine wp_region_lit ?_
 refine wpp fun K_ h_ => ?_; go_simp; refine h_ _ _ ?_; clear h_ K_
 refine wpList_nil ?_
 (try simp only [Exit.then, Exit.inBlock, ↓reduceIte, Nat.reduceEqDiff])
 refine hK7 _ _ ?_
 refine wp_seq_k (fun K16 hK16 => ?_)
 refine wp_region_lit ?_
 refine wpp fun K_ h_ => ?_; go_simp; refine h_ _ _ ?_; clear h_ K_
 refine wpp fun K_ h_ => ?_; go_simp; refine h_ _ _ ?_; clear h_ K_
 refine wpList_nil ?_
 (try simp only [Exit.then, Exit.inBlock, ↓reduceIte, Nat.reduceEqDiff])
 refine hK16 _ _ ?_
 refine wp_ret ?_
 (try simp only [Exit.then, Exit.inBlock, ↓reduceIte, Nat.reduceEqDiff])
 refine hQf _ _ _ ?_
 exact bodyPost_ret (v := .int .i64 2) (by first | rfl | (simp [results, Try.results95, go_sem]; done) | (simp [results, Try.results95, go_sem]; rfl)) rfl ⟨rfl, (hu6.out.trans hu13.out)⟩

set_option maxHeartbeats 40000000 in
set_option maxRecDepth 100000 in
theorem spec_l01Mod.calls (K : Nat) (a0 : Int) (a1 : Int) (r0 : Int) (w : World)  (h : spec_l01Mod.f K a0 a1 = some (r0)) :
    Calls Try.prog 111 #[.int .i64 a0, .int .i64 a1] w fun e w' => e = .returned (.int .i64 r0) ∧ Up w w' := by
 have H : ((if (a1 == 0) = true then none else some (Int.tmod (wrap64 ((Int.tmod a0 a1) + a1)) a1)) : Option (Int)) = some (r0) := h
 clear h
 go_enter Try.func111, Try.ntmps111
 refine wp_hide (fun Qf hQf => ?_)
 refine wp_seq_k (fun K1 hK1 => ?_)
 refine wp_region_lit ?_
 refine wpp fun K_ h_ => ?_; go_simp; refine h_ _ _ ?_; clear h_ K_
 refine wpList_nil ?_
 (try simp only [Exit.then, Exit.inBlock, ↓reduceIte, Nat.reduceEqDiff])
 refine hK1 _ _ ?_
 refine wp_seq_k (fun K2 hK2 => ?_)
 refine wp_region_lit ?_
 refine wpp fun K_ h_ => ?_; go_simp; refine h_ _ _ ?_; clear h_ K_
 refine wpp fun K_ h_ => ?_; go_simp; refine h_ _ _ ?_; clear h_ K_
 by_cases c3 : (a1 == 0) = true
 ·
  rw [if_pos c3] at H
  have c3n : (a1 != 0) = false := by rw [bne, c3]; rfl
  exact absurd H (by simp)
 rw [if_neg c3] at H; replace c3 := Bool.eq_false_iff.mpr c3
 have c3n : (a1 != 0) = true := by rw [bne, c3]; rfl
 have c3p : ¬ a1 = 0 := fun e => by simp [e] at c3
 obtain rfl := Option.some.inj H
 try simp only [c3, c3n, Bool.not_true, Bool.not_false]
 refine wpp fun K_ h_ => ?_; go_simp; refine h_ _ _ ?_; clear h_ K_
 refine wpp fun K_ h_ => ?_; go_simp; refine h_ _ _ ?_; clear h_ K_
 refine wpp fun K_ h_ => ?_; go_simp; refine h_ _ _ ?_; clear h_ K_
 refine wpp fun K_ h_ => ?_; go_simp; refine h_ _ _ ?_; clear h_ K_
 refine wpp fun K_ h_ => ?_; go_simp; refine h_ _ _ ?_; clear h_ K_
 refine wpp fun K_ h_ => ?_; go_simp; refine h_ _ _ ?_; clear h_ K_
 refine wpList_nil ?_
 (try simp only [Exit.then, Exit.inBlock, ↓reduceIte, Nat.reduceEqDiff])
 refine hK2 _ _ ?_
 refine wp_ret ?_
 (try simp only [Exit.then, Exit.inBlock, ↓reduceIte, Nat.reduceEqDiff])
 refine hQf _ _ _ ?_
 exact bodyPost_ret (v := .int .i64 (Int.tmod (wrap64 ((Int.tmod a0 a1) + a1)) a1)) (by first | rfl | (simp [results, Try.results111, go_sem]; done) | (simp [results, Try.results111, go_sem]; rfl)) rfl ⟨rfl, (Up.refl _)⟩

set_option maxHeartbeats 40000000 in
set_option maxRecDepth 100000 in
theorem spec_l05Value.calls (K : Nat) (a0 : Int) (a1 : Int) (a2 : Int) (r0 : Int) (w : World)  (h : spec_l05Value.f K a0 a1 a2 = some (r0)) :
    Calls Try.prog 96 #[.int .i64 a0, .int .i64 a1, .int .i64 a2] w fun e w' => e = .returned (.int .i64 r0) ∧ Up w w' := by
 have H : ((spec_l05Value.l0 K a0 a2 K a1 0 a2) : Option (Int)) = some (r0) := h
 clear h
 go_enter Try.func96, Try.ntmps96
 refine wp_hide (fun Qf hQf => ?_)
 refine wp_seq_k (fun K1 hK1 => ?_)
 refine wp_region_lit ?_
 refine wpp fun K_ h_ => ?_; go_simp; refine h_ _ _ ?_; clear h_ K_
 refine wpList_nil ?_
 (try simp only [Exit.then, Exit.inBlock, ↓reduceIte, Nat.reduceEqDiff])
 refine hK1 _ _ ?_
 refine wp_seq_k (fun K2 hK2 => ?_)
 refine wp_region_lit ?_
 refine wpp fun K_ h_ => ?_; go_simp; refine h_ _ _ ?_; clear h_ K_
 refine wpp fun K_ h_ => ?_; go_simp; refine h_ _ _ ?_; clear h_ K_
 refine wpp fun K_ h_ => ?_; go_simp; refine h_ _ _ ?_; clear h_ K_
 refine wpList_nil ?_
 (try simp only [Exit.then, Exit.inBlock, ↓reduceIte, Nat.reduceEqDiff])
 refine hK2 _ _ ?_
 refine wp_seq_k (fun K3 hK3 => ?_)
 refine wp_block ?_
 have HL10 := Aside0.mk H
 clear H
 go_loopg [1, 7, 8] K (fun kq v1 v7 v8 w' => ∃ (x4 : Int) (x5 : Int) (x6 : Int), v1 = .int .i64 x4 ∧ v7 = .int .i64 x5 ∧ v8 = .int .i64 x6 ∧ Aside0 (spec_l05Value.l0 K a0 a2 kq x4 x5 x6 = some (r0)) ∧ Aside0 (kq ≤ K) ∧ Aside0 (Up w w') ∧ Aside0 (w.heap.size ≤ w'.heap.size))
 case atStart => exact ⟨a1, 0, a2, (by first | rfl | simp), (by first | rfl | simp), (by first | rfl | simp), HL10, ⟨Nat.le_refl _⟩, ⟨(Up.refl _)⟩, ⟨Nat.le_refl _⟩⟩
 case round =>
  rename_i J14 K15 hJ14 hK15
  obtain ⟨x4, x5, x6, rfl, rfl, rfl, HL13, hk12, hu8, hz9⟩ := hrel
  obtain ⟨w7, rfl⟩ : ∃ wo : World, wo = wr := ⟨_, rfl⟩
  obtain ⟨k11, rfl⟩ | rfl : (∃ k, gk = k + 1) ∨ gk = 0 := by rcases gk with _ | k; exact .inr rfl; exact .inl ⟨k, rfl⟩
  case inr => exact absurd HL13.out (by simp [spec_l05Value.l0])
  have H := HL13.out
  clear HL13
  rw [spec_l05Value.l0] at H
  refine wp_seq_k (fun K16 hK16 => ?_)
  refine wp_seq_k (fun K17 hK17 => ?_)
  refine wp_region_lit ?_
  refine wpp fun K_ h_ => ?_; go_simp; refine h_ _ _ ?_; clear h_ K_
  refine wpp fun K_ h_ => ?_; go_simp; refine h_ _ _ ?_; clear h_ K_
  refine wpList_nil ?_
  (try simp only [Exit.then, Exit.inBlock, ↓reduceIte, Nat.reduceEqDiff])
  refine hK17 _ _ ?_
  by_cases c18 : (decide (0 < x4)) = true
  rotate_left
  ·
   rw [if_neg c18] at H; replace c18 := Bool.eq_false_iff.mpr c18
   obtain rfl := Option.some.inj H
   try simp only [c18, Bool.not_true, Bool.not_false]
   refine wp_cond_false rfl ?_
   refine wp_exit ?_
   (try simp only [Exit.then, Exit.inBlock, ↓reduceIte, Nat.reduceEqDiff])
   refine hK3 _ _ ?_
   refine wp_seq_k (fun K28 hK28 => ?_)
   refine wp_region_lit ?_
   refine wpp fun K_ h_ => ?_; go_simp; refine h_ _ _ ?_; clear h_ K_
   refine wpp fun K_ h_ => ?_; go_simp; refine h_ _ _ ?_; clear h_ K_
   refine wpList_nil ?_
   (try simp only [Exit.then, Exit.inBlock, ↓reduceIte, Nat.reduceEqDiff])
   refine hK28 _ _ ?_
   refine wp_ret ?_
   (try simp only [Exit.then, Exit.inBlock, ↓reduceIte, Nat.reduceEqDiff])
   refine hQf _ _ _ ?_
   exact bodyPost_ret (v := .int .i64 x5) (by first | rfl | (simp [results, Try.results96, go_sem]; done) | (simp [results, Try.results96, go_sem]; rfl)) rfl ⟨rfl, hu8.out⟩
  rw [if_pos c18] at H
  try simp only [c18, Bool.not_true, Bool.not_false]
  refine wp_cond_true rfl ?_
  refine wp_skip ?_
  (try simp only [Exit.then, Exit.inBlock, ↓reduceIte, Nat.reduceEqDiff])
  refine hK16 _ _ ?_
  refine wp_seq_k (fun K19 hK19 => ?_)
  refine wp_block ?_
  refine wp_seq_k (fun K20 hK20 => ?_)
  refine wp_region_lit ?_
  refine wpp fun K_ h_ => ?_; go_simp; refine h_ _ _ ?_; clear h_ K_
  refine wpp fun K_ h_ => ?_; go_simp; refine h_ _ _ ?_; clear h_ K_
  refine wpp fun K_ h_ => ?_; go_simp; refine h_ _ _ ?_; clear h_ K_
  refine wpp fun K_ h_ => ?_; go_simp; refine h_ _ _ ?_; clear h_ K_
  refine wpp fun K_ h_ => ?_; go_simp; refine h_ _ _ ?_; clear h_ K_
  by_cases c21 : (a0 == 0) = true
  ·
   rw [if_pos c21] at H
   have c21n : (a0 != 0) = false := by rw [bne, c21]; rfl
   exact absurd H (by simp)
  rw [if_neg c21] at H; replace c21 := Bool.eq_false_iff.mpr c21
  have c21n : (a0 != 0) = true := by rw [bne, c21]; rfl
  have c21p : ¬ a0 = 0 := fun e => by simp [e] at c21
  replace H := Option.bind_eq_some_iff.mp H
  obtain ⟨t22, A23, H⟩ := H
  replace A23 := Aside0.mk A23
  try dsimp only at H
  have HL27 := Aside0.mk H
  clear H
  try simp only [c21, c21n, Bool.not_true, Bool.not_false]
  refine wpp fun K_ h_ => ?_; go_simp; refine h_ _ _ ?_; clear h_ K_
  refine wpp fun K_ h_ => ?_; go_simp; refine h_ _ _ ?_; clear h_ K_
  refine wpp fun K_ h_ => ?_; go_simp; refine h_ _ _ ?_; clear h_ K_
  refine wpp fun K_ h_ => ?_; go_simp; refine h_ _ _ ?_; clear h_ K_
  refine wpp fun K_ h_ => ?_; go_simp; refine h_ _ _ ?_; clear h_ K_
  refine wpp fun K_ h_ => ?_; go_simp; refine h_ _ _ ?_; clear h_ K_
  refine wpp fun K_ h_ => ?_; go_simp; refine h_ _ _ ?_; clear h_ K_
  refine wpp fun K_ h_ => ?_; go_simp; refine h_ _ _ ?_; clear h_ K_
  refine wpp fun K_ h_ => ?_; go_simp; refine h_ _ _ ?_; clear h_ K_
  refine step_call (wanted_none rfl) (by go_simp <;> rfl) (spec_l01Mod.calls K (wrap64 ((wrap64 ((wrap64 ((Int.tmod (wrap64 (2 * (wrap64 (1 - (wrap64 (2 * a2)))))) a0) * x6)) - x5)) + (wrap64 (2 * a2)))) a0 t22 w7  A23.out) ?_
  rintro e w24 ⟨rfl, hu⟩
  have hu25 := Aside0.mk hu
  clear hu
  refine ⟨_, rfl, ?_⟩
  simp only [Act.put, nm1, nm2, nm3, i64_w]
  refine wpp fun K_ h_ => ?_; go_simp; refine h_ _ _ ?_; clear h_ K_
  refine wpList_nil ?_
  (try simp only [Exit.then, Exit.inBlock, ↓reduceIte, Nat.reduceEqDiff])
  refine hK20 _ _ ?_
  refine wp_seq_k (fun K26 hK26 => ?_)
  refine wp_region_lit ?_
  refine wpp fun K_ h_ => ?_; go_simp; refine h_ _ _ ?_; clear h_ K_
  refine wpp fun K_ h_ => ?_; go_simp; refine h_ _ _ ?_; clear h_ K_
  refine wpList_nil ?_
  (try simp only [Exit.then, Exit.inBlock, ↓reduceIte, Nat.reduceEqDiff])
  refine hK26 _ _ ?_
  refine wp_region_lit ?_
  refine wpp fun K_ h_ => ?_; go_simp; refine h_ _ _ ?_; clear h_ K_
  refine wpp fun K_ h_ => ?_; go_simp; refine h_ _ _ ?_; clear h_ K_
  refine wpList_nil ?_
  (try simp only [Exit.then, Exit.inBlock, ↓reduceIte, Nat.reduceEqDiff])
  refine hK19 _ _ ?_
  refine wp_region_lit ?_
  refine wpp fun K_ h_ => ?_; go_simp; refine h_ _ _ ?_; clear h_ K_
  refine wpp fun K_ h_ => ?_; go_simp; refine h_ _ _ ?_; clear h_ K_
  refine wpp fun K_ h_ => ?_; go_simp; refine h_ _ _ ?_; clear h_ K_
  refine wpList_nil ?_
  (try simp only [Exit.then, Exit.inBlock, ↓reduceIte, Nat.reduceEqDiff])
  refine hK15 _ _ ?_
  go_roundg k11
  case measure => exact Nat.lt_succ_self _
  case rel => exact ⟨wrap64 (x4 - 1), x6, t22, (by first | rfl | simp), (by first | rfl | simp), (by first | rfl | simp), HL27, ⟨by have := hk12.out; omega⟩, ⟨(hu8.out.trans hu25.out)⟩, ⟨(Nat.le_trans ((Nat.le_trans (Nat.le_refl _) hz9.out)) hu25.out.size)⟩⟩

set_option maxHeartbeats 40000000 in
set_option maxRecDepth 100000 in
theorem spec_SpreadPolynomial.calls (K : Nat) (a0 : Int) (a1 : Int) (a2 : Int) (r0 : Int) (r1 : Int) (w : World)  (h : spec_SpreadPolynomial.f K a0 a1 a2 = some (r0, r1)) :
    Calls Try.prog 18 #[.int .i64 a0, .int .i64 a1, .int .i64 a2] w fun e w' => e = .returned (.tuple #[.int .i64 r0, .int .i64 r1]) ∧ Up w w' := by
 have H : (((spec_l05Code.f K a0 a1 ([a2])).bind fun t7 => (if (t7 == 0) = true then ((spec_l05Value.f K a0 a1 a2).bind fun t14 => some (t14, 0)) else some (0, t7))) : Option (Int × Int)) = some (r0, r1) := h
 clear h
 replace H := Option.bind_eq_some_iff.mp H
 obtain ⟨t7, A8, H⟩ := H
 replace A8 := Aside0.mk A8
 try dsimp only at H
 go_enter Try.func18, Try.ntmps18
 refine wp_hide (fun Qf hQf => ?_)
 refine wp_seq_k (fun K1 hK1 => ?_)
 refine wp_region_lit ?_
 refine wpp fun K_ h_ => ?_; go_simp; refine h_ _ _ ?_; clear h_ K_
 refine wpp fun K_ h_ => ?_; go_simp; refine h_ _ _ ?_; clear h_ K_
 refine wpList_nil ?_
 (try simp only [Exit.then, Exit.inBlock, ↓reduceIte, Nat.reduceEqDiff])
 refine hK1 _ _ ?_
 refine wp_seq_k (fun K2 hK2 => ?_)
 refine wp_seq_k (fun K3 hK3 => ?_)
 refine wp_region_lit ?_
 refine wpp fun K_ h_ => ?_; go_simp; refine h_ _ _ ?_; clear h_ K_
 refine wpp fun K_ h_ => ?_; go_simp; refine h_ _ _ ?_; clear h_ K_
 refine wpp fun K_ h_ => ?_; go_simp; refine h_ _ _ ?_; clear h_ K_
 refine step_new (cs := [.int .i64 a2]) (T := 2) (f := fun b => .slice (some ⟨b, 0, none⟩) 1 1) rfl (by go_simp <;> rfl) ?_
 intro b4 w5 hu lb hb4
 simp only [Act.put, nm1, nm2, nm3, i64_w]
 have lbb4 := Aside0.mk lb
 have ltb4 := Aside0.mk hb4.lt
 clear lb
 have hu6 := Aside0.mk hu
 clear hu
 refine step_call (wanted_none rfl) (by go_simp <;> rfl) (spec_l05Code.calls K a0 a1 (some ⟨b4, 0, none⟩) 1 ([a2]) t7 w5 (Rd.of_blk (E := eI) (xs := [a2]) (o := 0) hb4 (by simp) (fun j u hu => by rcases j with _ | j <;> simp_all [Enc.flat, eI])) A8.out) ?_
 rintro e w9 ⟨rfl, hu⟩
 have hu10 := Aside0.mk hu
 clear hu
 refine ⟨_, rfl, ?_⟩
 simp only [Act.put, nm1, nm2, nm3, i64_w]
 refine wpp fun K_ h_ => ?_; go_simp; refine h_ _ _ ?_; clear h_ K_
 refine wpList_nil ?_
 (try simp only [Exit.then, Exit.inBlock, ↓reduceIte, Nat.reduceEqDiff])
 refine hK3 _ _ ?_
 refine wp_seq_k (fun K11 hK11 => ?_)
 refine wp_region_lit ?_
 refine wpp fun K_ h_ => ?_; go_simp; refine h_ _ _ ?_; clear h_ K_
 refine wpp fun K_ h_ => ?_; go_simp; refine h_ _ _ ?_; clear h_ K_
 refine wpList_nil ?_
 (try simp only [Exit.then, Exit.inBlock, ↓reduceIte, Nat.reduceEqDiff])
 refine hK11 _ _ ?_
 by_cases c12 : (t7 == 0) = true
 rotate_left
 ·
  rw [if_neg c12] at H; replace c12 := Bool.eq_false_iff.mpr c12
  have c12n : (t7 != 0) = true := by rw [bne, c12]; rfl
  have c12p : ¬ t7 = 0 := fun e => by simp [e] at c12
  simp only [Option.some.injEq, Prod.mk.injEq] at H
  obtain ⟨rfl, rfl⟩ := H
  try simp only [c12, c12n, Bool.not_true, Bool.not_false]
  refine wp_cond_true rfl ?_
  refine wp_seq_k (fun K18 hK18 => ?_)
  refine wp_region_lit ?_
  refine wpp fun K_ h_ => ?_; go_simp; refine h_ _ _ ?_; clear h_ K_
  refine wpp fun K_ h_ => ?_; go_simp; refine h_ _ _ ?_; clear h_ K_
  refine wpp fun K_ h_ => ?_; go_simp; refine h_ _ _ ?_; clear h_ K_
  refine wpList_nil ?_
  (try simp only [Exit.then, Exit.inBlock, ↓reduceIte, Nat.reduceEqDiff])
  refine hK18 _ _ ?_
  refine wp_ret ?_
  (try simp only [Exit.then, Exit.inBlock, ↓reduceIte, Nat.reduceEqDiff])
  refine hQf _ _ _ ?_
  exact bodyPost_ret (v := .tuple #[.int .i64 0, .int .i64 t7]) (by first | rfl | (simp [results, Try.results18, go_sem]; done) | (simp [results, Try.results18, go_sem]; rfl)) rfl ⟨rfl, (hu6.out.trans hu10.out)⟩
 rw [if_pos c12] at H
 have c12n : (t7 != 0) = false := by rw [bne, c12]; rfl
 replace H := Option.bind_eq_some_iff.mp H
 obtain ⟨t14, A15, H⟩ := H
 replace A15 := Aside0.mk A15
 try dsimp only at H
 simp only [Option.some.injEq, Prod.mk.injEq] at H
 obtain ⟨rfl, rfl⟩ := H
 try simp only [c12, c12n, Bool.not_true, Bool.not_false]
 refine wp_cond_false rfl ?_
 refine wp_skip ?_
 (try simp only [Exit.then, Exit.inBlock, ↓reduceIte, Nat.reduceEqDiff])
 refine hK2 _ _ ?_
 refine wp_seq_k (fun K13 hK13 => ?_)
 refine wp_region_lit ?_
 refine wpp fun K_ h_ => ?_; go_simp; refine h_ _ _ ?_; clear h_ K_
 refine wpp fun K_ h_ => ?_; go_simp; refine h_ _ _ ?_; clear h_ K_
 refine wpp fun K_ h_ => ?_; go_simp; refine h_ _ _ ?_; clear h_ K_
 refine step_call (wanted_none rfl) (by go_simp <;> rfl) (spec_l05Value.calls K a0 a1 a2 t14 w9  A15.out) ?_
 rintro e w16 ⟨rfl, hu⟩
 have hu17 := Aside0.mk hu
 clear hu
 refine ⟨_, rfl, ?_⟩
 simp only [Act.put, nm1, nm2, nm3, i64_w]
 refine wpp fun K_ h_ => ?_; go_simp; refine h_ _ _ ?_; clear h_ K_
 refine wpp fun K_ h_ => ?_; go_simp; refine h_ _ _ ?_; clear h_ K_
 refine wpList_nil ?_
 (try simp only [Exit.then, Exit.inBlock, ↓reduceIte, Nat.reduceEqDiff])
 refine hK13 _ _ ?_
 refine wp_ret ?_
 (try simp only [Exit.then, Exit.inBlock, ↓reduceIte, Nat.reduceEqDiff])
 refine hQf _ _ _ ?_
 exact bodyPost_ret (v := .tuple #[.int .i64 t14, .int .i64 0]) (by first | rfl | (simp [results, Try.results18, go_sem]; done) | (simp [results, Try.results18, go_sem]; rfl)) rfl ⟨rfl, ((hu6.out.trans hu10.out).trans hu17.out)⟩

set_option maxHeartbeats 40000000 in
set_option maxRecDepth 100000 in
theorem impl_ZerosOf_1.calls (K : Nat) (bf0 : Nat) (f0_0 : Int) (r0 : Bool) (w : World) (hf0 : Blk w bf0 [.int .i64 f0_0] 2) (h : impl_ZerosOf_1.f K f0_0 = some (r0)) :
    Calls Try.prog 97 #[.pointer (some ⟨bf0, 0, none⟩)] w fun e w' => e = .returned (.bool r0) ∧ Up w w' := by
 have H : (((impl_isIndex.f K f0_0).bind fun t3 => some t3) : Option (Bool)) = some (r0) := h
 clear h
 replace H := Option.bind_eq_some_iff.mp H
 obtain ⟨t3, A4, H⟩ := H
 replace A4 := Aside0.mk A4
 try dsimp only at H
 obtain rfl := Option.some.inj H
 have ltbf0 := Aside0.mk hf0.lt
 go_enter Try.func97, Try.ntmps97
 refine wp_hide (fun Qf hQf => ?_)
 refine wp_seq_k (fun K1 hK1 => ?_)
 refine wp_region_lit ?_
 refine wpp fun K_ h_ => ?_; go_simp; refine h_ _ _ ?_; clear h_ K_
 refine wpList_nil ?_
 (try simp only [Exit.then, Exit.inBlock, ↓reduceIte, Nat.reduceEqDiff])
 refine hK1 _ _ ?_
 refine wp_seq_k (fun K2 hK2 => ?_)
 refine wp_region_lit ?_
 have cl0 := hf0.cell (o := 0) rfl
 refine wpp fun K_ h_ => ?_; go_simp; refine h_ _ _ ?_; clear h_ K_
 clear cl0
 refine step_call (wanted_none rfl) (by go_simp <;> rfl) (impl_isIndex.calls K f0_0 t3 w  A4.out) ?_
 rintro e w5 ⟨rfl, hu⟩
 have hu6 := Aside0.mk hu
 clear hu
 refine ⟨_, rfl, ?_⟩
 simp only [Act.put, nm1, nm2, nm3, i64_w]
 refine wpp fun K_ h_ => ?_; go_simp; refine h_ _ _ ?_; clear h_ K_
 refine wpList_nil ?_
 (try simp only [Exit.then, Exit.inBlock, ↓reduceIte, Nat.reduceEqDiff])
 refine hK2 _ _ ?_
 refine wp_ret ?_
 (try simp only [Exit.then, Exit.inBlock, ↓reduceIte, Nat.reduceEqDiff])
 refine hQf _ _ _ ?_
 exact bodyPost_ret (v := .bool t3) (by first | rfl | (simp [results, Try.results97, go_sem]; done) | (simp [results, Try.results97, go_sem]; rfl)) rfl ⟨rfl, hu6.out⟩

set_option maxHeartbeats 40000000 in
set_option maxRecDepth 100000 in
theorem impl_asked__impl_ZerosOf_1.calls (K : Nat) (a0 : Int) (bc1_0 : Nat) (c1_0_0 : Int) (r0 : Int) (w : World) (hc1_0 : Blk w bc1_0 [.int .i64 c1_0_0] 2) (h : impl_asked__impl_ZerosOf_1.f K a0 c1_0_0 = some (r0)) :
    Calls Try.prog 67 #[.int .i64 a0, .func (.func 97) #[] #[.pointer (some ⟨bc1_0, 0, none⟩)]] w fun e w' => e = .returned (.int .i64 r0) ∧ Up w w' := by
 have H : (((impl_IsField.f K a0).bind fun t4 => (if t4 = true then ((impl_ZerosOf_1.f K c1_0_0).bind fun t11 => (if t11 = true then some 0 else some 2)) else some 1)) : Option (Int)) = some (r0) := h
 clear h
 replace H := Option.bind_eq_some_iff.mp H
 obtain ⟨t4, A5, H⟩ := H
 replace A5 := Aside0.mk A5
 try dsimp only at H
 have ltbc1_0 := Aside0.mk hc1_0.lt
 go_enter Try.func67, Try.ntmps67
 refine wp_hide (fun Qf hQf => ?_)
 refine wp_seq_k (fun K1 hK1 => ?_)
 refine wp_region_lit ?_
 refine wpp fun K_ h_ => ?_; go_simp; refine h_ _ _ ?_; clear h_ K_
 refine wpList_nil ?_
 (try simp only [Exit.then, Exit.inBlock, ↓reduceIte, Nat.reduceEqDiff])
 refine hK1 _ _ ?_
 refine wp_seq_k (fun K2 hK2 => ?_)
 refine wp_seq_k (fun K3 hK3 => ?_)
 refine wp_region_lit ?_
 refine wpp fun K_ h_ => ?_; go_simp; refine h_ _ _ ?_; clear h_ K_
 refine step_call (wanted_none rfl) (by go_simp <;> rfl) (impl_IsField.calls K a0 t4 w  A5.out) ?_
 rintro e w6 ⟨rfl, hu⟩
 have hu7 := Aside0.mk hu
 clear hu
 refine ⟨_, rfl, ?_⟩
 simp only [Act.put, nm1, nm2, nm3, i64_w]
 refine wpp fun K_ h_ => ?_; go_simp; refine h_ _ _ ?_; clear h_ K_
 refine wpList_nil ?_
 (try simp only [Exit.then, Exit.inBlock, ↓reduceIte, Nat.reduceEqDiff])
 refine hK3 _ _ ?_
 by_cases c8 : (t4) = true
 rotate_left
 ·
  rw [if_neg c8] at H; replace c8 := Bool.eq_false_iff.mpr c8
  subst c8
  obtain rfl := Option.some.inj H
  refine wp_cond_true rfl ?_
  refine wp_seq_k (fun K18 hK18 => ?_)
  refine wp_region_lit ?_
  refine wpp fun K_ h_ => ?_; go_simp; refine h_ _ _ ?_; clear h_ K_
  refine wpList_nil ?_
  (try simp only [Exit.then, Exit.inBlock, ↓reduceIte, Nat.reduceEqDiff])
  refine hK18 _ _ ?_
  refine wp_ret ?_
  (try simp only [Exit.then, Exit.inBlock, ↓reduceIte, Nat.reduceEqDiff])
  refine hQf _ _ _ ?_
  exact bodyPost_ret (v := .int .i64 1) (by first | rfl | (simp [results, Try.results67, go_sem]; done) | (simp [results, Try.results67, go_sem]; rfl)) rfl ⟨rfl, hu7.out⟩
 rw [if_pos c8] at H
 subst c8
 replace H := Option.bind_eq_some_iff.mp H
 obtain ⟨t11, A12, H⟩ := H
 replace A12 := Aside0.mk A12
 try dsimp only at H
 refine wp_cond_false rfl ?_
 refine wp_skip ?_
 (try simp only [Exit.then, Exit.inBlock, ↓reduceIte, Nat.reduceEqDiff])
 refine hK2 _ _ ?_
 refine wp_seq_k (fun K9 hK9 => ?_)
 refine wp_seq_k (fun K10 hK10 => ?_)
 refine wp_region_lit ?_
 refine wpp fun K_ h_ => ?_; go_simp; refine h_ _ _ ?_; clear h_ K_
 refine step_call (wanted_none rfl) (by go_simp <;> rfl) (impl_ZerosOf_1.calls K bc1_0 c1_0_0 t11 w6 (hc1_0.up hu7.out) A12.out) ?_
 rintro e w13 ⟨rfl, hu⟩
 have hu14 := Aside0.mk hu
 clear hu
 refine ⟨_, rfl, ?_⟩
 simp only [Act.put, nm1, nm2, nm3, i64_w]
 refine wpp fun K_ h_ => ?_; go_simp; refine h_ _ _ ?_; clear h_ K_
 refine wpList_nil ?_
 (try simp only [Exit.then, Exit.inBlock, ↓reduceIte, Nat.reduceEqDiff])
 refine hK10 _ _ ?_
 by_cases c15 : (t11) = true
 rotate_left
 ·
  rw [if_neg c15] at H; replace c15 := Bool.eq_false_iff.mpr c15
  subst c15
  obtain rfl := Option.some.inj H
  refine wp_cond_true rfl ?_
  refine wp_seq_k (fun K17 hK17 => ?_)
  refine wp_region_lit ?_
  refine wpp fun K_ h_ => ?_; go_simp; refine h_ _ _ ?_; clear h_ K_
  refine wpList_nil ?_
  (try simp only [Exit.then, Exit.inBlock, ↓reduceIte, Nat.reduceEqDiff])
  refine hK17 _ _ ?_
  refine wp_ret ?_
  (try simp only [Exit.then, Exit.inBlock, ↓reduceIte, Nat.reduceEqDiff])
  refine hQf _ _ _ ?_
  exact bodyPost_ret (v := .int .i64 2) (by first | rfl | (simp [results, Try.results67, go_sem]; done) | (simp [results, Try.results67, go_sem]; rfl)) rfl ⟨rfl, (hu7.out.trans hu14.out)⟩
 rw [if_pos c15] at H
 subst c15
 obtain rfl := Option.some.inj H
 refine wp_cond_false rfl ?_
 refine wp_skip ?_
 (try simp only [Exit.then, Exit.inBlock, ↓reduceIte, Nat.reduceEqDiff])
 refine hK9 _ _ ?_
 refine wp_seq_k (fun K16 hK16 => ?_)
 refine wp_region_lit ?_
 refine wpp fun K_ h_ => ?_; go_simp; refine h_ _ _ ?_; clear h_ K_
 refine wpList_nil ?_
 (try simp only [Exit.then, Exit.inBlock, ↓reduceIte, Nat.reduceEqDiff])
 refine hK16 _ _ ?_
 refine wp_ret ?_
 (try simp only [Exit.then, Exit.inBlock, ↓reduceIte, Nat.reduceEqDiff])
 refine hQf _ _ _ ?_
 exact bodyPost_ret (v := .int .i64 0) (by first | rfl | (simp [results, Try.results67, go_sem]; done) | (simp [results, Try.results67, go_sem]; rfl)) rfl ⟨rfl, (hu7.out.trans hu14.out)⟩

set_option maxHeartbeats 40000000 in
set_option maxRecDepth 100000 in
theorem impl_ZerosOf_2.calls (K : Nat) (a0 : Int) (bf0 : Nat) (f0_0 : Int) (bf1 : Nat) (f1_0 : Int) (r0 : Bool) (w : World) (hf0 : Blk w bf0 [.int .i64 f0_0] 2) (hf1 : Blk w bf1 [.int .i64 f1_0] 2) (h : impl_ZerosOf_2.f K a0 f0_0 f1_0 = some (r0)) :
    Calls Try.prog 99 #[.int .i64 a0, .pointer (some ⟨bf0, 0, none⟩), .pointer (some ⟨bf1, 0, none⟩)] w fun e w' => e = .returned (.bool r0) ∧ Up w w' := by
 have H : (((impl_spreadOf.f K f0_0 f1_0 a0).bind fun t3 => some (t3 == 0)) : Option (Bool)) = some (r0) := h
 clear h
 replace H := Option.bind_eq_some_iff.mp H
 obtain ⟨t3, A4, H⟩ := H
 replace A4 := Aside0.mk A4
 try dsimp only at H
 obtain rfl := Option.some.inj H
 have ltbf0 := Aside0.mk hf0.lt
 have ltbf1 := Aside0.mk hf1.lt
 go_enter Try.func99, Try.ntmps99
 refine wp_hide (fun Qf hQf => ?_)
 refine wp_seq_k (fun K1 hK1 => ?_)
 refine wp_region_lit ?_
 refine wpp fun K_ h_ => ?_; go_simp; refine h_ _ _ ?_; clear h_ K_
 refine wpList_nil ?_
 (try simp only [Exit.then, Exit.inBlock, ↓reduceIte, Nat.reduceEqDiff])
 refine hK1 _ _ ?_
 refine wp_seq_k (fun K2 hK2 => ?_)
 refine wp_region_lit ?_
 have cl0 := hf0.cell (o := 0) rfl
 refine wpp fun K_ h_ => ?_; go_simp; refine h_ _ _ ?_; clear h_ K_
 clear cl0
 have cl0 := hf1.cell (o := 0) rfl
 refine wpp fun K_ h_ => ?_; go_simp; refine h_ _ _ ?_; clear h_ K_
 clear cl0
 refine wpp fun K_ h_ => ?_; go_simp; refine h_ _ _ ?_; clear h_ K_
 refine step_call (wanted_none rfl) (by go_simp <;> rfl) (impl_spreadOf.calls K f0_0 f1_0 a0 t3 w  A4.out) ?_
 rintro e w5 ⟨rfl, hu⟩
 have hu6 := Aside0.mk hu
 clear hu
 refine ⟨_, rfl, ?_⟩
 simp only [Act.put, nm1, nm2, nm3, i64_w]
 refine wpp fun K_ h_ => ?_; go_simp; refine h_ _ _ ?_; clear h_ K_
 refine wpp fun K_ h_ => ?_; go_simp; refine h_ _ _ ?_; clear h_ K_
 refine wpList_nil ?_
 (try simp only [Exit.then, Exit.inBlock, ↓reduceIte, Nat.reduceEqDiff])
 refine hK2 _ _ ?_
 refine wp_ret ?_
 (try simp only [Exit.then, Exit.inBlock, ↓reduceIte, Nat.reduceEqDiff])
 refine hQf _ _ _ ?_
 exact bodyPost_ret (v := .bool (t3 == 0)) (by first | rfl | (simp [results, Try.results99, go_sem]; done) | (simp [results, Try.results99, go_sem]; rfl)) rfl ⟨rfl, hu6.out⟩

set_option maxHeartbeats 40000000 in
set_option maxRecDepth 100000 in
theorem impl_numbersWith__impl_ZerosOf_2.calls (K : Nat) (a0 : Int) (bc1_0 : Nat) (c1_0_0 : Int) (bc1_1 : Nat) (c1_1_0 : Int) (r0 : List (Int)) (w : World) (hc1_0 : Blk w bc1_0 [.int .i64 c1_0_0] 2) (hc1_1 : Blk w bc1_1 [.int .i64 c1_1_0] 2) (h : impl_numbersWith__impl_ZerosOf_2.f K a0 c1_0_0 c1_1_0 = some (r0)) :
    Calls Try.prog 98 #[.int .i64 a0, .func (.func 99) #[] #[.pointer (some ⟨bc1_0, 0, none⟩), .pointer (some ⟨bc1_1, 0, none⟩)]] w fun e w' => ∃ (Ar0 : Option Addr) (cr0 : Nat), e = .returned (.slice Ar0 r0.length cr0) ∧ Own eI 2 w' w.heap.size (.slice Ar0 r0.length cr0) r0 ∧ Up w w' := by
 have H : ((impl_numbersWith__impl_ZerosOf_2.l0 K a0 c1_0_0 c1_1_0 K 0 ([] : List (Int))) : Option (List (Int))) = some (r0) := h
 clear h
 have ltbc1_0 := Aside0.mk hc1_0.lt
 have ltbc1_1 := Aside0.mk hc1_1.lt
 go_enter Try.func98, Try.ntmps98
 refine wp_hide (fun Qf hQf => ?_)
 refine wp_seq_k (fun K1 hK1 => ?_)
 refine wp_region_lit ?_
 refine wpp fun K_ h_ => ?_; go_simp; refine h_ _ _ ?_; clear h_ K_
 refine wpList_nil ?_
 (try simp only [Exit.then, Exit.inBlock, ↓reduceIte, Nat.reduceEqDiff])
 refine hK1 _ _ ?_
 refine wp_seq_k (fun K2 hK2 => ?_)
 refine wp_region_lit ?_
 refine step_new (cs := []) (T := 2) (f := fun b => .slice (some ⟨b, 0, none⟩) 0 0) rfl (by go_simp <;> rfl) ?_
 intro b3 w4 hu lb hb3
 simp only [Act.put, nm1, nm2, nm3, i64_w]
 have lbb3 := Aside0.mk lb
 have ltb3 := Aside0.mk hb3.lt
 clear lb
 have hu5 := Aside0.mk hu
 clear hu
 refine wpp fun K_ h_ => ?_; go_simp; refine h_ _ _ ?_; clear h_ K_
 refine wpList_nil ?_
 (try simp only [Exit.then, Exit.inBlock, ↓reduceIte, Nat.reduceEqDiff])
 refine hK2 _ _ ?_
 refine wp_seq_k (fun K6 hK6 => ?_)
 refine wp_seq_k (fun K7 hK7 => ?_)
 refine wp_region_lit ?_
 refine wpp fun K_ h_ => ?_; go_simp; refine h_ _ _ ?_; clear h_ K_
 refine wpList_nil ?_
 (try simp only [Exit.then, Exit.inBlock, ↓reduceIte, Nat.reduceEqDiff])
 refine hK7 _ _ ?_
 refine wp_block ?_
 have h9 : Own eI 2 w4 w.heap.size (.slice (some ⟨b3, 0, none⟩) ([].length) 0) [] := Own.of_blk hb3 lbb3.out rfl (by simp) (by simp [Enc.flat, eI])
 have HL17 := Aside0.mk H
 clear H
 go_loopg [6, 5] K (fun kq v6 v5 w' => ∃ (x10 : Int) (x11 : List (Int)) (P12 : Option Addr) (q13 : Nat), v6 = .int .i64 x10 ∧ v5 = .slice P12 x11.length q13 ∧ Aside0 (impl_numbersWith__impl_ZerosOf_2.l0 K a0 c1_0_0 c1_1_0 kq x10 x11 = some (r0)) ∧ Aside0 (kq ≤ K) ∧ Aside0 (Up w w') ∧ Aside0 (w4.heap.size ≤ w'.heap.size) ∧ Own eI 2 w' w.heap.size (.slice P12 x11.length q13) x11)
 case atStart => exact ⟨0, ([] : List (Int)), some ⟨b3, 0, none⟩, 0, (by first | rfl | simp), (by first | rfl | simp), HL17, ⟨Nat.le_refl _⟩, ⟨hu5.out⟩, ⟨Nat.le_refl _⟩, h9⟩
 case round =>
  rename_i J22 K23 hJ22 hK23
  obtain ⟨x10, x11, P12, q13, rfl, rfl, HL21, hk20, hu15, hz16, h18⟩ := hrel
  obtain ⟨w14, rfl⟩ : ∃ wo : World, wo = wr := ⟨_, rfl⟩
  obtain ⟨k19, rfl⟩ | rfl : (∃ k, gk = k + 1) ∨ gk = 0 := by rcases gk with _ | k; exact .inr rfl; exact .inl ⟨k, rfl⟩
  case inr => exact absurd HL21.out (by simp [impl_numbersWith__impl_ZerosOf_2.l0])
  have H := HL21.out
  clear HL21
  rw [impl_numbersWith__impl_ZerosOf_2.l0] at H
  refine wp_seq_k (fun K24 hK24 => ?_)
  refine wp_seq_k (fun K25 hK25 => ?_)
  refine wp_region_lit ?_
  refine wpp fun K_ h_ => ?_; go_simp; refine h_ _ _ ?_; clear h_ K_
  refine wpp fun K_ h_ => ?_; go_simp; refine h_ _ _ ?_; clear h_ K_
  refine wpp fun K_ h_ => ?_; go_simp; refine h_ _ _ ?_; clear h_ K_
  refine wpList_nil ?_
  (try simp only [Exit.then, Exit.inBlock, ↓reduceIte, Nat.reduceEqDiff])
  refine hK25 _ _ ?_
  by_cases c26 : (decide (x10 < a0)) = true
  rotate_left
  ·
   rw [if_neg c26] at H; replace c26 := Bool.eq_false_iff.mpr c26
   obtain rfl := Option.some.inj H
   try simp only [c26, Bool.not_true, Bool.not_false]
   refine wp_cond_false rfl ?_
   refine wp_exit ?_
   (try simp only [Exit.then, Exit.inBlock, ↓reduceIte, Nat.reduceEqDiff])
   refine hK6 _ _ ?_
   refine wp_seq_k (fun K51 hK51 => ?_)
   refine wp_region_lit ?_
   refine wpp fun K_ h_ => ?_; go_simp; refine h_ _ _ ?_; clear h_ K_
   refine wpp fun K_ h_ => ?_; go_simp; refine h_ _ _ ?_; clear h_ K_
   refine wpList_nil ?_
   (try simp only [Exit.then, Exit.inBlock, ↓reduceIte, Nat.reduceEqDiff])
   refine hK51 _ _ ?_
   refine wp_ret ?_
   (try simp only [Exit.then, Exit.inBlock, ↓reduceIte, Nat.reduceEqDiff])
   refine hQf _ _ _ ?_
   exact bodyPost_ret (v := .slice P12 x11.length q13) (by first | rfl | (simp [results, Try.results98, go_sem]; done) | (simp [results, Try.results98, go_sem]; rfl)) rfl ⟨P12, q13, rfl, (h18.lower (Nat.le_refl _)), hu15.out⟩
  rw [if_pos c26] at H
  replace H := Option.bind_eq_some_iff.mp H
  obtain ⟨t29, A30, H⟩ := H
  replace A30 := Aside0.mk A30
  try dsimp only at H
  try simp only [c26, Bool.not_true, Bool.not_false]
  refine wp_cond_true rfl ?_
  refine wp_skip ?_
  (try simp only [Exit.then, Exit.inBlock, ↓reduceIte, Nat.reduceEqDiff])
  refine hK24 _ _ ?_
  refine wp_seq_k (fun K27 hK27 => ?_)
  refine wp_block ?_
  refine wp_seq_k (fun K28 hK28 => ?_)
  refine wp_region_lit ?_
  refine wpp fun K_ h_ => ?_; go_simp; refine h_ _ _ ?_; clear h_ K_
  refine wpp fun K_ h_ => ?_; go_simp; refine h_ _ _ ?_; clear h_ K_
  refine step_call (wanted_none rfl) (by go_simp <;> rfl) (impl_ZerosOf_2.calls K x10 bc1_0 c1_0_0 bc1_1 c1_1_0 t29 w14 (hc1_0.up hu15.out) (hc1_1.up hu15.out) A30.out) ?_
  rintro e w31 ⟨rfl, hu⟩
  have hu32 := Aside0.mk hu
  clear hu
  refine ⟨_, rfl, ?_⟩
  simp only [Act.put, nm1, nm2, nm3, i64_w]
  refine wpList_nil ?_
  (try simp only [Exit.then, Exit.inBlock, ↓reduceIte, Nat.reduceEqDiff])
  refine hK28 _ _ ?_
  by_cases c33 : (t29) = true
  rotate_left
  ·
   rw [if_neg c33] at H; replace c33 := Bool.eq_false_iff.mpr c33
   subst c33
   have HL50 := Aside0.mk H
   clear H
   refine wp_cond_false rfl ?_
   refine wp_skip ?_
   (try simp only [Exit.then, Exit.inBlock, ↓reduceIte, Nat.reduceEqDiff])
   refine hK27 _ _ ?_
   refine wp_region_lit ?_
   refine wpp fun K_ h_ => ?_; go_simp; refine h_ _ _ ?_; clear h_ K_
   refine wpp fun K_ h_ => ?_; go_simp; refine h_ _ _ ?_; clear h_ K_
   refine wpp fun K_ h_ => ?_; go_simp; refine h_ _ _ ?_; clear h_ K_
   refine wpList_nil ?_
   (try simp only [Exit.then, Exit.inBlock, ↓reduceIte, Nat.reduceEqDiff])
   refine hK23 _ _ ?_
   go_roundg k19
   case measure => exact Nat.lt_succ_self _
   case rel => exact ⟨wrap64 (x10 + 1), x11, P12, q13, (by first | rfl | simp), (by first | rfl | simp), HL50, ⟨by have := hk20.out; omega⟩, ⟨(hu15.out.trans hu32.out)⟩, ⟨(Nat.le_trans ((Nat.le_trans (Nat.le_refl _) hz16.out)) hu32.out.size)⟩, (h18.up hu32.out)⟩
  rw [if_pos c33] at H
  subst c33
  refine wp_cond_true rfl ?_
  refine wp_region_lit ?_
  refine wpp fun K_ h_ => ?_; go_simp; refine h_ _ _ ?_; clear h_ K_
  refine wpp fun K_ h_ => ?_; go_simp; refine h_ _ _ ?_; clear h_ K_
  refine step_new (cs := [.int .i64 x10]) (T := 2) (f := fun b => .slice (some ⟨b, 0, none⟩) 1 1) rfl (by go_simp <;> rfl) ?_
  intro b34 w35 hu lb hb34
  simp only [Act.put, nm1, nm2, nm3, i64_w]
  have lbb34 := Aside0.mk lb
  have ltb34 := Aside0.mk hb34.lt
  clear lb
  have hu36 := Aside0.mk hu
  clear hu
  have hm38 := Aside0.mk (Nat.le_trans ((Nat.le_trans ((Nat.le_trans (hu5.out.size) hz16.out)) hu32.out.size)) hu36.out.size)
  have hm39 := Aside0.mk (Nat.le_trans ((Nat.le_trans ((Nat.le_trans (Nat.le_refl _) hz16.out)) hu32.out.size)) hu36.out.size)
  by_cases c37 : (decide (x11.length ≤ 1000000)) = true
  rotate_left
  ·
   rw [if_neg c37] at H; replace c37 := Bool.eq_false_iff.mpr c37
   exact absurd H (by simp)
  rw [if_pos c37] at H
  have HL49 := Aside0.mk H
  clear H
  try simp only [c37, Bool.not_true, Bool.not_false]
  have hO0 := Aside0.mk (h18.up (hu32.out.trans hu36.out))
  refine step_append eI (z := .int .i64 0) (bytes := 8) (base := w.heap.size) (xs := x11) (ys := [x10]) (wanted_none rfl) _ _ rfl rfl (by kernel_rfl) rfl (by decide) rfl rfl rfl hO0.out (Rd.of_blk (E := eI) (xs := [x10]) (o := 0) hb34 (by simp) (fun j u hu => by rcases j with _ | j <;> simp_all [Enc.flat, eI])) (hm38.out) (by have h0_ := (of_decide_eq_true (by assumption) : x11.length ≤ 1000000); (try simp only [List.length_cons, List.length_nil]); omega) ?_
  intro P40 q41 w42 h44 hg hat
  have hg45 := Aside0.mk hg
  have hat46 := Aside0.mk hat
  simp only [Act.put, nm1, nm2, nm3, i64_w]
  have lb47 := Aside0.mk hO0.out.lt
  clear hO0 hg hat
  have h48 := hb34.grow hg45.out (fun k hk => Nat.ne_of_lt (Nat.lt_of_lt_of_le ((fun k hk => Nat.lt_of_lt_of_le (h18.lt k hk).2 (hu32.out.size)) k hk) lbb34.out))
  refine wpp fun K_ h_ => ?_; go_simp; refine h_ _ _ ?_; clear h_ K_
  refine wpList_nil ?_
  (try simp only [Exit.then, Exit.inBlock, ↓reduceIte, Nat.reduceEqDiff])
  refine hK27 _ _ ?_
  refine wp_region_lit ?_
  refine wpp fun K_ h_ => ?_; go_simp; refine h_ _ _ ?_; clear h_ K_
  refine wpp fun K_ h_ => ?_; go_simp; refine h_ _ _ ?_; clear h_ K_
  refine wpp fun K_ h_ => ?_; go_simp; refine h_ _ _ ?_; clear h_ K_
  refine wpList_nil ?_
  (try simp only [Exit.then, Exit.inBlock, ↓reduceIte, Nat.reduceEqDiff])
  refine hK23 _ _ ?_
  go_roundg k19
  case measure => exact Nat.lt_succ_self _
  case rel => exact ⟨wrap64 (x10 + 1), (x11 ++ [x10]), P40, q41, (by first | rfl | simp), (by first | rfl | simp), HL49, ⟨by have := hk20.out; omega⟩, ⟨(((hu15.out.trans hu32.out).trans hu36.out).grow hg45.out (fun k hk => Nat.le_trans (Nat.le_refl _) ((fun k hk => (lb47.out k hk).1) k hk)))⟩, ⟨(Nat.le_trans (hm39.out) hg45.out.size)⟩, h44⟩

set_option maxHeartbeats 40000000 in
set_option maxRecDepth 100000 in
theorem impl_ZerosOf.calls (K : Nat) (a0 : Int) (a1 : Int) (r0 : List (Int)) (r1 : Int) (w : World)  (h : impl_ZerosOf.f K a0 a1 = some (r0, r1)) :
    Calls Try.prog 19 #[.int .i64 a0, .int .i64 a1] w fun e w' => ∃ (Ar0 : Option Addr) (cr0 : Nat), e = .returned (.tuple #[.slice Ar0 r0.length cr0, .int .i64 r1]) ∧ Own eI 2 w' w.heap.size (.slice Ar0 r0.length cr0) r0 ∧ Up w w' := by
 have H : (((impl_asked__impl_ZerosOf_1.f K a0 a1).bind fun t10 => (if (t10 == 0) = true then ((impl_numbersWith__impl_ZerosOf_2.f K a0 a0 a1).bind fun t17 => some (t17, 0)) else some ([], t10))) : Option (List (Int) × Int)) = some (r0, r1) := h
 clear h
 replace H := Option.bind_eq_some_iff.mp H
 obtain ⟨t10, A11, H⟩ := H
 replace A11 := Aside0.mk A11
 try dsimp only at H
 go_enter Try.func19, Try.ntmps19
 refine wp_hide (fun Qf hQf => ?_)
 refine wp_seq_k (fun K1 hK1 => ?_)
 refine wp_region_lit ?_
 refine step_new (cs := [.int .i64 a0]) (T := 2) (f := fun b => .pointer (some ⟨b, 0, none⟩)) rfl (by go_simp <;> rfl) ?_
 intro b2 w3 hu lb hb2
 simp only [Act.put, nm1, nm2, nm3, i64_w]
 have lbb2 := Aside0.mk lb
 have ltb2 := Aside0.mk hb2.lt
 clear lb
 have hu4 := Aside0.mk hu
 clear hu
 refine step_new (cs := [.int .i64 a1]) (T := 2) (f := fun b => .pointer (some ⟨b, 0, none⟩)) rfl (by go_simp <;> rfl) ?_
 intro b5 w6 hu lb hb5
 simp only [Act.put, nm1, nm2, nm3, i64_w]
 have lbb5 := Aside0.mk lb
 have ltb5 := Aside0.mk hb5.lt
 clear lb
 have hu7 := Aside0.mk hu
 clear hu
 refine wpp fun K_ h_ => ?_; go_simp; refine h_ _ _ ?_; clear h_ K_
 refine wpp fun K_ h_ => ?_; go_simp; refine h_ _ _ ?_; clear h_ K_
 refine wpList_nil ?_
 (try simp only [Exit.then, Exit.inBlock, ↓reduceIte, Nat.reduceEqDiff])
 refine hK1 _ _ ?_
 refine wp_seq_k (fun K8 hK8 => ?_)
 refine wp_seq_k (fun K9 hK9 => ?_)
 refine wp_region_lit ?_
 have cl0 := (hb2.up hu7.out).cell (o := 0) rfl
 refine wpp fun K_ h_ => ?_; go_simp; refine h_ _ _ ?_; clear h_ K_
 clear cl0
 refine wpp fun K_ h_ => ?_; go_simp; refine h_ _ _ ?_; clear h_ K_
 refine step_call (wanted_none rfl) (by go_simp <;> rfl) (impl_asked__impl_ZerosOf_1.calls K a0 b5 a1 t10 w6 hb5 A11.out) ?_
 rintro e w12 ⟨rfl, hu⟩
 have hu13 := Aside0.mk hu
 clear hu
 refine ⟨_, rfl, ?_⟩
 simp only [Act.put, nm1, nm2, nm3, i64_w]
 refine wpp fun K_ h_ => ?_; go_simp; refine h_ _ _ ?_; clear h_ K_
 refine wpList_nil ?_
 (try simp only [Exit.then, Exit.inBlock, ↓reduceIte, Nat.reduceEqDiff])
 refine hK9 _ _ ?_
 refine wp_seq_k (fun K14 hK14 => ?_)
 refine wp_region_lit ?_
 refine wpp fun K_ h_ => ?_; go_simp; refine h_ _ _ ?_; clear h_ K_
 refine wpp fun K_ h_ => ?_; go_simp; refine h_ _ _ ?_; clear h_ K_
 refine wpList_nil ?_
 (try simp only [Exit.then, Exit.inBlock, ↓reduceIte, Nat.reduceEqDiff])
 refine hK14 _ _ ?_
 by_cases c15 : (t10 == 0) = true
 rotate_left
 ·
  rw [if_neg c15] at H; replace c15 := Bool.eq_false_iff.mpr c15
  have c15n : (t10 != 0) = true := by rw [bne, c15]; rfl
  have c15p : ¬ t10 = 0 := fun e => by simp [e] at c15
  simp only [Option.some.injEq, Prod.mk.injEq] at H
  obtain ⟨rfl, rfl⟩ := H
  try simp only [c15, c15n, Bool.not_true, Bool.not_false]
  refine wp_cond_true rfl ?_
  refine wp_seq_k (fun K23 hK23 => ?_)
  refine wp_region_lit ?_
  refine wpp fun K_ h_ => ?_; go_simp; refine h_ _ _ ?_; clear h_ K_
  refine wpp fun K_ h_ => ?_; go_simp; refine h_ _ _ ?_; clear h_ K_
  refine wpp fun K_ h_ => ?_; go_simp; refine h_ _ _ ?_; clear h_ K_
  refine wpList_nil ?_
  (try simp only [Exit.then, Exit.inBlock, ↓reduceIte, Nat.reduceEqDiff])
  refine hK23 _ _ ?_
  refine wp_ret ?_
  have h25 : Own eI 2 w12 w12.heap.size (.slice none ([] : List (Int)).length 0) [] := Own.nil
  (try simp only [Exit.then, Exit.inBlock, ↓reduceIte, Nat.reduceEqDiff])
  refine hQf _ _ _ ?_
  exact bodyPost_ret (v := .tuple #[.slice none 0 0, .int .i64 t10]) (by first | rfl | (simp [results, Try.results19, go_sem]; done) | (simp [results, Try.results19, go_sem]; rfl)) rfl ⟨none, 0, rfl, (h25.lower ((Nat.le_trans ((Nat.le_trans (hu4.out.size) hu7.out.size)) hu13.out.size))), ((hu4.out.trans hu7.out).trans hu13.out)⟩
 rw [if_pos c15] at H
 have c15n : (t10 != 0) = false := by rw [bne, c15]; rfl
 replace H := Option.bind_eq_some_iff.mp H
 obtain ⟨t17, A20, H⟩ := H
 replace A20 := Aside0.mk A20
 try dsimp only at H
 simp only [Option.some.injEq, Prod.mk.injEq] at H
 obtain ⟨rfl, rfl⟩ := H
 try simp only [c15, c15n, Bool.not_true, Bool.not_false]
 refine wp_cond_false rfl ?_
 refine wp_skip ?_
 (try simp only [Exit.then, Exit.inBlock, ↓reduceIte, Nat.reduceEqDiff])
 refine hK8 _ _ ?_
 refine wp_seq_k (fun K16 hK16 => ?_)
 refine wp_region_lit ?_
 have cl0 := (hb2.up (hu7.out.trans hu13.out)).cell (o := 0) rfl
 refine wpp fun K_ h_ => ?_; go_simp; refine h_ _ _ ?_; clear h_ K_
 clear cl0
 refine wpp fun K_ h_ => ?_; go_simp; refine h_ _ _ ?_; clear h_ K_
 refine step_call (wanted_none rfl) (by go_simp <;> rfl) (impl_numbersWith__impl_ZerosOf_2.calls K a0 b2 a0 b5 a1 t17 w12 (hb2.up (hu7.out.trans hu13.out)) (hb5.up hu13.out) A20.out) ?_
 rintro e w21 ⟨P18, q19, rfl, ht17, hu⟩
 have hu22 := Aside0.mk hu
 clear hu
 refine ⟨_, rfl, ?_⟩
 simp only [Act.put, nm1, nm2, nm3, i64_w]
 refine wpp fun K_ h_ => ?_; go_simp; refine h_ _ _ ?_; clear h_ K_
 refine wpp fun K_ h_ => ?_; go_simp; refine h_ _ _ ?_; clear h_ K_
 refine wpList_nil ?_
 (try simp only [Exit.then, Exit.inBlock, ↓reduceIte, Nat.reduceEqDiff])
 refine hK16 _ _ ?_
 refine wp_ret ?_
 (try simp only [Exit.then, Exit.inBlock, ↓reduceIte, Nat.reduceEqDiff])
 refine hQf _ _ _ ?_
 exact bodyPost_ret (v := .tuple #[.slice P18 t17.length q19, .int .i64 0]) (by first | rfl | (simp [results, Try.results19, go_sem]; done) | (simp [results, Try.results19, go_sem]; rfl)) rfl ⟨P18, q19, rfl, (ht17.lower ((Nat.le_trans ((Nat.le_trans (hu4.out.size) hu7.out.size)) hu13.out.size))), (((hu4.out.trans hu7.out).trans hu13.out).trans hu22.out)⟩

set_option maxHeartbeats 40000000 in
set_option maxRecDepth 100000 in
theorem spec_l05Values.calls (K : Nat) (a0 : Int) (a1 : Int) (r0 : List (Int)) (w : World)  (h : spec_l05Values.f K a0 a1 = some (r0)) :
    Calls Try.prog 115 #[.int .i64 a0, .int .i64 a1] w fun e w' => ∃ (Ar0 : Option Addr) (cr0 : Nat), e = .returned (.slice Ar0 r0.length cr0) ∧ Own eI 2 w' w.heap.size (.slice Ar0 r0.length cr0) r0 ∧ Up w w' := by
 have H : ((spec_l05Values.l0 K a0 a1 K 0 ([] : List (Int))) : Option (List (Int))) = some (r0) := h
 clear h
 go_enter Try.func115, Try.ntmps115
 refine wp_hide (fun Qf hQf => ?_)
 refine wp_seq_k (fun K1 hK1 => ?_)
 refine wp_region_lit ?_
 refine wpp fun K_ h_ => ?_; go_simp; refine h_ _ _ ?_; clear h_ K_
 refine wpList_nil ?_
 (try simp only [Exit.then, Exit.inBlock, ↓reduceIte, Nat.reduceEqDiff])
 refine hK1 _ _ ?_
 refine wp_seq_k (fun K2 hK2 => ?_)
 refine wp_region_lit ?_
 refine step_new (cs := []) (T := 2) (f := fun b => .slice (some ⟨b, 0, none⟩) 0 0) rfl (by go_simp <;> rfl) ?_
 intro b3 w4 hu lb hb3
 simp only [Act.put, nm1, nm2, nm3, i64_w]
 have lbb3 := Aside0.mk lb
 have ltb3 := Aside0.mk hb3.lt
 clear lb
 have hu5 := Aside0.mk hu
 clear hu
 refine wpp fun K_ h_ => ?_; go_simp; refine h_ _ _ ?_; clear h_ K_
 refine wpList_nil ?_
 (try simp only [Exit.then, Exit.inBlock, ↓reduceIte, Nat.reduceEqDiff])
 refine hK2 _ _ ?_
 refine wp_seq_k (fun K6 hK6 => ?_)
 refine wp_seq_k (fun K7 hK7 => ?_)
 refine wp_region_lit ?_
 refine wpp fun K_ h_ => ?_; go_simp; refine h_ _ _ ?_; clear h_ K_
 refine wpList_nil ?_
 (try simp only [Exit.then, Exit.inBlock, ↓reduceIte, Nat.reduceEqDiff])
 refine hK7 _ _ ?_
 refine wp_block ?_
 have h9 : Own eI 2 w4 w.heap.size (.slice (some ⟨b3, 0, none⟩) ([].length) 0) [] := Own.of_blk hb3 lbb3.out rfl (by simp) (by simp [Enc.flat, eI])
 have HL17 := Aside0.mk H
 clear H
 go_loopg [6, 5] K (fun kq v6 v5 w' => ∃ (x10 : Int) (x11 : List (Int)) (P12 : Option Addr) (q13 : Nat), v6 = .int .i64 x10 ∧ v5 = .slice P12 x11.length q13 ∧ Aside0 (spec_l05Values.l0 K a0 a1 kq x10 x11 = some (r0)) ∧ Aside0 (kq ≤ K) ∧ Aside0 (Up w w') ∧ Aside0 (w4.heap.size ≤ w'.heap.size) ∧ Own eI 2 w' w.heap.size (.slice P12 x11.length q13) x11)
 case atStart => exact ⟨0, ([] : List (Int)), some ⟨b3, 0, none⟩, 0, (by first | rfl | simp), (by first | rfl | simp), HL17, ⟨Nat.le_refl _⟩, ⟨hu5.out⟩, ⟨Nat.le_refl _⟩, h9⟩
 case round =>
  rename_i J22 K23 hJ22 hK23
  obtain ⟨x10, x11, P12, q13, rfl, rfl, HL21, hk20, hu15, hz16, h18⟩ := hrel
  obtain ⟨w14, rfl⟩ : ∃ wo : World, wo = wr := ⟨_, rfl⟩
  obtain ⟨k19, rfl⟩ | rfl : (∃ k, gk = k + 1) ∨ gk = 0 := by rcases gk with _ | k; exact .inr rfl; exact .inl ⟨k, rfl⟩
  case inr => exact absurd HL21.out (by simp [spec_l05Values.l0])
  have H := HL21.out
  clear HL21
  rw [spec_l05Values.l0] at H
  refine wp_seq_k (fun K24 hK24 => ?_)
  refine wp_seq_k (fun K25 hK25 => ?_)
  refine wp_region_lit ?_
  refine wpp fun K_ h_ => ?_; go_simp; refine h_ _ _ ?_; clear h_ K_
  refine wpp fun K_ h_ => ?_; go_simp; refine h_ _ _ ?_; clear h_ K_
  refine wpp fun K_ h_ => ?_; go_simp; refine h_ _ _ ?_; clear h_ K_
  refine wpList_nil ?_
  (try simp only [Exit.then, Exit.inBlock, ↓reduceIte, Nat.reduceEqDiff])
  refine hK25 _ _ ?_
  by_cases c26 : (decide (x10 < a0)) = true
  rotate_left
  ·
   rw [if_neg c26] at H; replace c26 := Bool.eq_false_iff.mpr c26
   obtain rfl := Option.some.inj H
   try simp only [c26, Bool.not_true, Bool.not_false]
   refine wp_cond_false rfl ?_
   refine wp_exit ?_
   (try simp only [Exit.then, Exit.inBlock, ↓reduceIte, Nat.reduceEqDiff])
   refine hK6 _ _ ?_
   refine wp_seq_k (fun K48 hK48 => ?_)
   refine wp_region_lit ?_
   refine wpp fun K_ h_ => ?_; go_simp; refine h_ _ _ ?_; clear h_ K_
   refine wpp fun K_ h_ => ?_; go_simp; refine h_ _ _ ?_; clear h_ K_
   refine wpList_nil ?_
   (try simp only [Exit.then, Exit.inBlock, ↓reduceIte, Nat.reduceEqDiff])
   refine hK48 _ _ ?_
   refine wp_ret ?_
   (try simp only [Exit.then, Exit.inBlock, ↓reduceIte, Nat.reduceEqDiff])
   refine hQf _ _ _ ?_
   exact bodyPost_ret (v := .slice P12 x11.length q13) (by first | rfl | (simp [results, Try.results115, go_sem]; done) | (simp [results, Try.results115, go_sem]; rfl)) rfl ⟨P12, q13, rfl, (h18.lower (Nat.le_refl _)), hu15.out⟩
  rw [if_pos c26] at H
  replace H := Option.bind_eq_some_iff.mp H
  obtain ⟨t28, A29, H⟩ := H
  replace A29 := Aside0.mk A29
  try dsimp only at H
  try simp only [c26, Bool.not_true, Bool.not_false]
  refine wp_cond_true rfl ?_
  refine wp_skip ?_
  (try simp only [Exit.then, Exit.inBlock, ↓reduceIte, Nat.reduceEqDiff])
  refine hK24 _ _ ?_
  refine wp_seq_k (fun K27 hK27 => ?_)
  refine wp_block ?_
  refine wp_region_lit ?_
  refine wpp fun K_ h_ => ?_; go_simp; refine h_ _ _ ?_; clear h_ K_
  refine wpp fun K_ h_ => ?_; go_simp; refine h_ _ _ ?_; clear h_ K_
  refine wpp fun K_ h_ => ?_; go_simp; refine h_ _ _ ?_; clear h_ K_
  refine wpp fun K_ h_ => ?_; go_simp; refine h_ _ _ ?_; clear h_ K_
  refine step_call (wanted_none rfl) (by go_simp <;> rfl) (spec_l05Value.calls K a0 a1 x10 t28 w14  A29.out) ?_
  rintro e w30 ⟨rfl, hu⟩
  have hu31 := Aside0.mk hu
  clear hu
  refine ⟨_, rfl, ?_⟩
  simp only [Act.put, nm1, nm2, nm3, i64_w]
  refine step_new (cs := [.int .i64 t28]) (T := 2) (f := fun b => .slice (some ⟨b, 0, none⟩) 1 1) rfl (by go_simp <;> rfl) ?_
  intro b32 w33 hu lb hb32
  simp only [Act.put, nm1, nm2, nm3, i64_w]
  have lbb32 := Aside0.mk lb
  have ltb32 := Aside0.mk hb32.lt
  clear lb
  have hu34 := Aside0.mk hu
  clear hu
  have hm36 := Aside0.mk (Nat.le_trans ((Nat.le_trans ((Nat.le_trans (hu5.out.size) hz16.out)) hu31.out.size)) hu34.out.size)
  have hm37 := Aside0.mk (Nat.le_trans ((Nat.le_trans ((Nat.le_trans (Nat.le_refl _) hz16.out)) hu31.out.size)) hu34.out.size)
  by_cases c35 : (decide (x11.length ≤ 1000000)) = true
  rotate_left
  ·
   rw [if_neg c35] at H; replace c35 := Bool.eq_false_iff.mpr c35
   exact absurd H (by simp)
  rw [if_pos c35] at H
  have HL47 := Aside0.mk H
  clear H
  try simp only [c35, Bool.not_true, Bool.not_false]
  have hO0 := Aside0.mk (h18.up (hu31.out.trans hu34.out))
  refine step_append eI (z := .int .i64 0) (bytes := 8) (base := w.heap.size) (xs := x11) (ys := [t28]) (wanted_none rfl) _ _ rfl rfl (by kernel_rfl) rfl (by decide) rfl rfl rfl hO0.out (Rd.of_blk (E := eI) (xs := [t28]) (o := 0) hb32 (by simp) (fun j u hu => by rcases j with _ | j <;> simp_all [Enc.flat, eI])) (hm36.out) (by have h0_ := (of_decide_eq_true (by assumption) : x11.length ≤ 1000000); (try simp only [List.length_cons, List.length_nil]); omega) ?_
  intro P38 q39 w40 h42 hg hat
  have hg43 := Aside0.mk hg
  have hat44 := Aside0.mk hat
  simp only [Act.put, nm1, nm2, nm3, i64_w]
  have lb45 := Aside0.mk hO0.out.lt
  clear hO0 hg hat
  have h46 := hb32.grow hg43.out (fun k hk => Nat.ne_of_lt (Nat.lt_of_lt_of_le ((fun k hk => Nat.lt_of_lt_of_le (h18.lt k hk).2 (hu31.out.size)) k hk) lbb32.out))
  refine wpp fun K_ h_ => ?_; go_simp; refine h_ _ _ ?_; clear h_ K_
  refine wpList_nil ?_
  (try simp only [Exit.then, Exit.inBlock, ↓reduceIte, Nat.reduceEqDiff])
  refine hK27 _ _ ?_
  refine wp_region_lit ?_
  refine wpp fun K_ h_ => ?_; go_simp; refine h_ _ _ ?_; clear h_ K_
  refine wpp fun K_ h_ => ?_; go_simp; refine h_ _ _ ?_; clear h_ K_
  refine wpp fun K_ h_ => ?_; go_simp; refine h_ _ _ ?_; clear h_ K_
  refine wpList_nil ?_
  (try simp only [Exit.then, Exit.inBlock, ↓reduceIte, Nat.reduceEqDiff])
  refine hK23 _ _ ?_
  go_roundg k19
  case measure => exact Nat.lt_succ_self _
  case rel => exact ⟨wrap64 (x10 + 1), (x11 ++ [t28]), P38, q39, (by first | rfl | simp), (by first | rfl | simp), HL47, ⟨by have := hk20.out; omega⟩, ⟨(((hu15.out.trans hu31.out).trans hu34.out).grow hg43.out (fun k hk => Nat.le_trans (Nat.le_refl _) ((fun k hk => (lb45.out k hk).1) k hk)))⟩, ⟨(Nat.le_trans (hm37.out) hg43.out.size)⟩, h42⟩

set_option maxHeartbeats 40000000 in
set_option maxRecDepth 100000 in
theorem spec_l05Led.calls (K : Nat) (a0 : Int) (a1 : Int) (a2 : Int) (r0 : List (Int)) (w : World)  (h : spec_l05Led.f K a0 a1 a2 = some (r0)) :
    Calls Try.prog 100 #[.int .i64 a0, .int .i64 a1, .int .i64 a2] w fun e w' => ∃ (Ar0 : Option Addr) (cr0 : Nat), e = .returned (.slice Ar0 r0.length cr0) ∧ Own eI 2 w' w.heap.size (.slice Ar0 r0.length cr0) r0 ∧ Up w w' := by
 have H : (((spec_l05Values.f K a0 a1).bind fun t3 => (spec_l05Led.l0 K a0 a2 t3 K 0 ([] : List (Int)))) : Option (List (Int))) = some (r0) := h
 clear h
 replace H := Option.bind_eq_some_iff.mp H
 obtain ⟨t3, A6, H⟩ := H
 replace A6 := Aside0.mk A6
 try dsimp only at H
 go_enter Try.func100, Try.ntmps100
 refine wp_hide (fun Qf hQf => ?_)
 refine wp_seq_k (fun K1 hK1 => ?_)
 refine wp_region_lit ?_
 refine wpp fun K_ h_ => ?_; go_simp; refine h_ _ _ ?_; clear h_ K_
 refine wpList_nil ?_
 (try simp only [Exit.then, Exit.inBlock, ↓reduceIte, Nat.reduceEqDiff])
 refine hK1 _ _ ?_
 refine wp_seq_k (fun K2 hK2 => ?_)
 refine wp_region_lit ?_
 refine wpp fun K_ h_ => ?_; go_simp; refine h_ _ _ ?_; clear h_ K_
 refine wpp fun K_ h_ => ?_; go_simp; refine h_ _ _ ?_; clear h_ K_
 refine step_call (wanted_none rfl) (by go_simp <;> rfl) (spec_l05Values.calls K a0 a1 t3 w  A6.out) ?_
 rintro e w7 ⟨P4, q5, rfl, ht3, hu⟩
 have hu8 := Aside0.mk hu
 clear hu
 refine ⟨_, rfl, ?_⟩
 simp only [Act.put, nm1, nm2, nm3, i64_w]
 refine step_new (cs := []) (T := 2) (f := fun b => .slice (some ⟨b, 0, none⟩) 0 0) rfl (by go_simp <;> rfl) ?_
 intro b9 w10 hu lb hb9
 simp only [Act.put, nm1, nm2, nm3, i64_w]
 have lbb9 := Aside0.mk lb
 have ltb9 := Aside0.mk hb9.lt
 clear lb
 have hu11 := Aside0.mk hu
 clear hu
 refine wpp fun K_ h_ => ?_; go_simp; refine h_ _ _ ?_; clear h_ K_
 refine wpp fun K_ h_ => ?_; go_simp; refine h_ _ _ ?_; clear h_ K_
 refine wpList_nil ?_
 (try simp only [Exit.then, Exit.inBlock, ↓reduceIte, Nat.reduceEqDiff])
 refine hK2 _ _ ?_
 refine wp_seq_k (fun K12 hK12 => ?_)
 refine wp_seq_k (fun K13 hK13 => ?_)
 refine wp_region_lit ?_
 refine wpp fun K_ h_ => ?_; go_simp; refine h_ _ _ ?_; clear h_ K_
 refine wpList_nil ?_
 (try simp only [Exit.then, Exit.inBlock, ↓reduceIte, Nat.reduceEqDiff])
 refine hK13 _ _ ?_
 refine wp_block ?_
 have h15 : Own eI 2 w10 w7.heap.size (.slice (some ⟨b9, 0, none⟩) ([].length) 0) [] := Own.of_blk hb9 lbb9.out rfl (by simp) (by simp [Enc.flat, eI])
 have HL23 := Aside0.mk H
 clear H
 go_loopg [9, 8] K (fun kq v9 v8 w' => ∃ (x16 : Int) (x17 : List (Int)) (P18 : Option Addr) (q19 : Nat), v9 = .int .i64 x16 ∧ v8 = .slice P18 x17.length q19 ∧ Aside0 (spec_l05Led.l0 K a0 a2 t3 kq x16 x17 = some (r0)) ∧ Aside0 (kq ≤ K) ∧ Aside0 (Up w7 w') ∧ Aside0 (w10.heap.size ≤ w'.heap.size) ∧ Own eI 2 w' w7.heap.size (.slice P18 x17.length q19) x17 ∧ Aside0 (∀ k l, blk (.slice P18 x17.length q19) = some k → blk (.slice P4 t3.length q5) = some l → k ≠ l))
 case atStart => exact ⟨0, ([] : List (Int)), some ⟨b9, 0, none⟩, 0, (by first | rfl | simp), (by first | rfl | simp), HL23, ⟨Nat.le_refl _⟩, ⟨hu11.out⟩, ⟨Nat.le_refl _⟩, h15, ⟨(fun k l hk hl => Ne.symm ((fun k l hk hl => Nat.ne_of_lt (Nat.lt_of_lt_of_le ((fun k hk => Nat.lt_of_lt_of_le (ht3.lt k hk).2 (Nat.le_refl _)) k hk) ((fun k hk => Nat.le_trans (Nat.le_refl _) (h15.lt k hk).1) l hl))) l k hl hk))⟩⟩
 case round =>
  rename_i J29 K30 hJ29 hK30
  obtain ⟨x16, x17, P18, q19, rfl, rfl, HL28, hk27, hu21, hz22, h24, hn25⟩ := hrel
  obtain ⟨w20, rfl⟩ : ∃ wo : World, wo = wr := ⟨_, rfl⟩
  obtain ⟨k26, rfl⟩ | rfl : (∃ k, gk = k + 1) ∨ gk = 0 := by rcases gk with _ | k; exact .inr rfl; exact .inl ⟨k, rfl⟩
  case inr => exact absurd HL28.out (by simp [spec_l05Led.l0])
  have H := HL28.out
  clear HL28
  rw [spec_l05Led.l0] at H
  refine wp_seq_k (fun K31 hK31 => ?_)
  refine wp_seq_k (fun K32 hK32 => ?_)
  refine wp_region_lit ?_
  refine wpp fun K_ h_ => ?_; go_simp; refine h_ _ _ ?_; clear h_ K_
  refine wpp fun K_ h_ => ?_; go_simp; refine h_ _ _ ?_; clear h_ K_
  refine wpp fun K_ h_ => ?_; go_simp; refine h_ _ _ ?_; clear h_ K_
  refine wpList_nil ?_
  (try simp only [Exit.then, Exit.inBlock, ↓reduceIte, Nat.reduceEqDiff])
  refine hK32 _ _ ?_
  by_cases c33 : (decide (x16 < a0)) = true
  rotate_left
  ·
   rw [if_neg c33] at H; replace c33 := Bool.eq_false_iff.mpr c33
   obtain rfl := Option.some.inj H
   try simp only [c33, Bool.not_true, Bool.not_false]
   refine wp_cond_false rfl ?_
   refine wp_exit ?_
   (try simp only [Exit.then, Exit.inBlock, ↓reduceIte, Nat.reduceEqDiff])
   refine hK12 _ _ ?_
   refine wp_seq_k (fun K58 hK58 => ?_)
   refine wp_region_lit ?_
   refine wpp fun K_ h_ => ?_; go_simp; refine h_ _ _ ?_; clear h_ K_
   refine wpp fun K_ h_ => ?_; go_simp; refine h_ _ _ ?_; clear h_ K_
   refine wpList_nil ?_
   (try simp only [Exit.then, Exit.inBlock, ↓reduceIte, Nat.reduceEqDiff])
   refine hK58 _ _ ?_
   refine wp_ret ?_
   (try simp only [Exit.then, Exit.inBlock, ↓reduceIte, Nat.reduceEqDiff])
   refine hQf _ _ _ ?_
   exact bodyPost_ret (v := .slice P18 x17.length q19) (by first | rfl | (simp [results, Try.results100, go_sem]; done) | (simp [results, Try.results100, go_sem]; rfl)) rfl ⟨P18, q19, rfl, (h24.lower (hu8.out.size)), (hu8.out.trans hu21.out)⟩
  rw [if_pos c33] at H
  replace H := Option.bind_eq_some_iff.mp H
  obtain ⟨t36, A37, H⟩ := H
  replace A37 := Aside0.mk A37
  try dsimp only at H
  try simp only [c33, Bool.not_true, Bool.not_false]
  refine wp_cond_true rfl ?_
  refine wp_skip ?_
  (try simp only [Exit.then, Exit.inBlock, ↓reduceIte, Nat.reduceEqDiff])
  refine hK31 _ _ ?_
  refine wp_seq_k (fun K34 hK34 => ?_)
  refine wp_block ?_
  refine wp_seq_k (fun K35 hK35 => ?_)
  refine wp_region_lit ?_
  refine wpp fun K_ h_ => ?_; go_simp; refine h_ _ _ ?_; clear h_ K_
  refine wpp fun K_ h_ => ?_; go_simp; refine h_ _ _ ?_; clear h_ K_
  refine step_index eI (T := 2) (wanted_none rfl) rfl (by kernel_rfl) (by kernel_rfl) rfl rfl rfl (ht3.up hu21.out).rd A37.out ?_
  intro ad38 hat he
  have he39 := Aside0.mk he
  have hat40 := Aside0.mk hat
  clear he hat
  simp only [Act.put, nm1, nm2, nm3, i64_w]
  have cl0 := he39.out 0 _ rfl
  rw [addr_add0] at cl0
  refine wpp fun K_ h_ => ?_; go_simp; refine h_ _ _ ?_; clear h_ K_
  clear cl0
  refine wpp fun K_ h_ => ?_; go_simp; refine h_ _ _ ?_; clear h_ K_
  refine wpp fun K_ h_ => ?_; go_simp; refine h_ _ _ ?_; clear h_ K_
  refine wpList_nil ?_
  (try simp only [Exit.then, Exit.inBlock, ↓reduceIte, Nat.reduceEqDiff])
  refine hK35 _ _ ?_
  by_cases c41 : (t36 == a2) = true
  rotate_left
  ·
   rw [if_neg c41] at H; replace c41 := Bool.eq_false_iff.mpr c41
   have c41n : (t36 != a2) = true := by rw [bne, c41]; rfl
   have c41p : ¬ t36 = a2 := fun e => by simp [e] at c41
   have HL57 := Aside0.mk H
   clear H
   try simp only [c41, c41n, Bool.not_true, Bool.not_false]
   refine wp_cond_false rfl ?_
   refine wp_skip ?_
   (try simp only [Exit.then, Exit.inBlock, ↓reduceIte, Nat.reduceEqDiff])
   refine hK34 _ _ ?_
   refine wp_region_lit ?_
   refine wpp fun K_ h_ => ?_; go_simp; refine h_ _ _ ?_; clear h_ K_
   refine wpp fun K_ h_ => ?_; go_simp; refine h_ _ _ ?_; clear h_ K_
   refine wpp fun K_ h_ => ?_; go_simp; refine h_ _ _ ?_; clear h_ K_
   refine wpList_nil ?_
   (try simp only [Exit.then, Exit.inBlock, ↓reduceIte, Nat.reduceEqDiff])
   refine hK30 _ _ ?_
   go_roundg k26
   case measure => exact Nat.lt_succ_self _
   case rel => exact ⟨wrap64 (x16 + 1), x17, P18, q19, (by first | rfl | simp), (by first | rfl | simp), HL57, ⟨by have := hk27.out; omega⟩, ⟨hu21.out⟩, ⟨(Nat.le_trans (Nat.le_refl _) hz22.out)⟩, h24, ⟨hn25.out⟩⟩
  rw [if_pos c41] at H
  have c41n : (t36 != a2) = false := by rw [bne, c41]; rfl
  try simp only [c41, c41n, Bool.not_true, Bool.not_false]
  refine wp_cond_true rfl ?_
  refine wp_region_lit ?_
  refine wpp fun K_ h_ => ?_; go_simp; refine h_ _ _ ?_; clear h_ K_
  refine wpp fun K_ h_ => ?_; go_simp; refine h_ _ _ ?_; clear h_ K_
  refine step_new (cs := [.int .i64 x16]) (T := 2) (f := fun b => .slice (some ⟨b, 0, none⟩) 1 1) rfl (by go_simp <;> rfl) ?_
  intro b42 w43 hu lb hb42
  simp only [Act.put, nm1, nm2, nm3, i64_w]
  have lbb42 := Aside0.mk lb
  have ltb42 := Aside0.mk hb42.lt
  clear lb
  have hu44 := Aside0.mk hu
  clear hu
  have hm46 := Aside0.mk (Nat.le_trans ((Nat.le_trans ((Nat.le_trans (hu8.out.size) hu11.out.size)) hz22.out)) hu44.out.size)
  by_cases c45 : (decide (x17.length ≤ 1000000)) = true
  rotate_left
  ·
   rw [if_neg c45] at H; replace c45 := Bool.eq_false_iff.mpr c45
   exact absurd H (by simp)
  rw [if_pos c45] at H
  have HL56 := Aside0.mk H
  clear H
  try simp only [c45, Bool.not_true, Bool.not_false]
  have hO0 := Aside0.mk (h24.up hu44.out)
  refine step_append eI (z := .int .i64 0) (bytes := 8) (base := w7.heap.size) (xs := x17) (ys := [x16]) (wanted_none rfl) _ _ rfl rfl (by kernel_rfl) rfl (by decide) rfl rfl rfl hO0.out (Rd.of_blk (E := eI) (xs := [x16]) (o := 0) hb42 (by simp) (fun j u hu => by rcases j with _ | j <;> simp_all [Enc.flat, eI])) ((Nat.le_trans ((Nat.le_trans (hu11.out.size) hz22.out)) hu44.out.size)) (by have h0_ := (of_decide_eq_true (by assumption) : x17.length ≤ 1000000); (try simp only [List.length_cons, List.length_nil]); omega) ?_
  intro P47 q48 w49 h51 hg hat
  have hg52 := Aside0.mk hg
  have hat53 := Aside0.mk hat
  simp only [Act.put, nm1, nm2, nm3, i64_w]
  have lb54 := Aside0.mk hO0.out.lt
  clear hO0 hg hat
  have h55 := hb42.grow hg52.out (fun k hk => Nat.ne_of_lt (Nat.lt_of_lt_of_le ((fun k hk => Nat.lt_of_lt_of_le (h24.lt k hk).2 (Nat.le_refl _)) k hk) lbb42.out))
  refine wpp fun K_ h_ => ?_; go_simp; refine h_ _ _ ?_; clear h_ K_
  refine wpList_nil ?_
  (try simp only [Exit.then, Exit.inBlock, ↓reduceIte, Nat.reduceEqDiff])
  refine hK34 _ _ ?_
  refine wp_region_lit ?_
  refine wpp fun K_ h_ => ?_; go_simp; refine h_ _ _ ?_; clear h_ K_
  refine wpp fun K_ h_ => ?_; go_simp; refine h_ _ _ ?_; clear h_ K_
  refine wpp fun K_ h_ => ?_; go_simp; refine h_ _ _ ?_; clear h_ K_
  refine wpList_nil ?_
  (try simp only [Exit.then, Exit.inBlock, ↓reduceIte, Nat.reduceEqDiff])
  refine hK30 _ _ ?_
  go_roundg k26
  case measure => exact Nat.lt_succ_self _
  case rel => exact ⟨wrap64 (x16 + 1), (x17 ++ [x16]), P47, q48, (by first | rfl | simp), (by first | rfl | simp), HL56, ⟨by have := hk27.out; omega⟩, ⟨((hu21.out.trans hu44.out).grow hg52.out (fun k hk => Nat.le_trans (Nat.le_refl _) ((fun k hk => (lb54.out k hk).1) k hk)))⟩, ⟨(Nat.le_trans ((Nat.le_trans ((Nat.le_trans (Nat.le_refl _) hz22.out)) hu44.out.size)) hg52.out.size)⟩, h51, ⟨(fun k l hk hl => hat53.out.elim (fun e => hn25.out k l (e.symm.trans hk) hl) (fun g => Nat.ne_of_gt (Nat.lt_of_lt_of_le ((fun k hk => Nat.lt_of_lt_of_le (ht3.lt k hk).2 ((Nat.le_trans ((Nat.le_trans (hu11.out.size) hz22.out)) hu44.out.size))) l hl) (g k hk))))⟩⟩

set_option maxHeartbeats 40000000 in
set_option maxRecDepth 100000 in
theorem spec_ZerosOf.calls (K : Nat) (a0 : Int) (a1 : Int) (r0 : List (Int)) (r1 : Int) (w : World)  (h : spec_ZerosOf.f K a0 a1 = some (r0, r1)) :
    Calls Try.prog 20 #[.int .i64 a0, .int .i64 a1] w fun e w' => ∃ (Ar0 : Option Addr) (cr0 : Nat), e = .returned (.tuple #[.slice Ar0 r0.length cr0, .int .i64 r1]) ∧ Own eI 2 w' w.heap.size (.slice Ar0 r0.length cr0) r0 ∧ Up w w' := by
 have H : (((spec_l05Code.f K a0 a1 ([])).bind fun t4 => (if (t4 == 0) = true then ((spec_l05Led.f K a0 a1 0).bind fun t11 => some (t11, 0)) else some ([], t4))) : Option (List (Int) × Int)) = some (r0, r1) := h
 clear h
 replace H := Option.bind_eq_some_iff.mp H
 obtain ⟨t4, A5, H⟩ := H
 replace A5 := Aside0.mk A5
 try dsimp only at H
 go_enter Try.func20, Try.ntmps20
 refine wp_hide (fun Qf hQf => ?_)
 refine wp_seq_k (fun K1 hK1 => ?_)
 refine wp_region_lit ?_
 refine wpp fun K_ h_ => ?_; go_simp; refine h_ _ _ ?_; clear h_ K_
 refine wpp fun K_ h_ => ?_; go_simp; refine h_ _ _ ?_; clear h_ K_
 refine wpList_nil ?_
 (try simp only [Exit.then, Exit.inBlock, ↓reduceIte, Nat.reduceEqDiff])
 refine hK1 _ _ ?_
 refine wp_seq_k (fun K2 hK2 => ?_)
 refine wp_seq_k (fun K3 hK3 => ?_)
 refine wp_region_lit ?_
 refine wpp fun K_ h_ => ?_; go_simp; refine h_ _ _ ?_; clear h_ K_
 refine wpp fun K_ h_ => ?_; go_simp; refine h_ _ _ ?_; clear h_ K_
 refine step_call (wanted_none rfl) (by go_simp <;> rfl) (spec_l05Code.calls K a0 a1 none 0 ([]) t4 w (Rd.nil) A5.out) ?_
 rintro e w6 ⟨rfl, hu⟩
 have hu7 := Aside0.mk hu
 clear hu
 refine ⟨_, rfl, ?_⟩
 simp only [Act.put, nm1, nm2, nm3, i64_w]
 refine wpp fun K_ h_ => ?_; go_simp; refine h_ _ _ ?_; clear h_ K_
 refine wpList_nil ?_
 (try simp only [Exit.then, Exit.inBlock, ↓reduceIte, Nat.reduceEqDiff])
 refine hK3 _ _ ?_
 refine wp_seq_k (fun K8 hK8 => ?_)
 refine wp_region_lit ?_
 refine wpp fun K_ h_ => ?_; go_simp; refine h_ _ _ ?_; clear h_ K_
 refine wpp fun K_ h_ => ?_; go_simp; refine h_ _ _ ?_; clear h_ K_
 refine wpList_nil ?_
 (try simp only [Exit.then, Exit.inBlock, ↓reduceIte, Nat.reduceEqDiff])
 refine hK8 _ _ ?_
 by_cases c9 : (t4 == 0) = true
 rotate_left
 ·
  rw [if_neg c9] at H; replace c9 := Bool.eq_false_iff.mpr c9
  have c9n : (t4 != 0) = true := by rw [bne, c9]; rfl
  have c9p : ¬ t4 = 0 := fun e => by simp [e] at c9
  simp only [Option.some.injEq, Prod.mk.injEq] at H
  obtain ⟨rfl, rfl⟩ := H
  try simp only [c9, c9n, Bool.not_true, Bool.not_false]
  refine wp_cond_true rfl ?_
  refine wp_seq_k (fun K17 hK17 => ?_)
  refine wp_region_lit ?_
  refine wpp fun K_ h_ => ?_; go_simp; refine h_ _ _ ?_; clear h_ K_
  refine wpp fun K_ h_ => ?_; go_simp; refine h_ _ _ ?_; clear h_ K_
  refine wpp fun K_ h_ => ?_; go_simp; refine h_ _ _ ?_; clear h_ K_
  refine wpList_nil ?_
  (try simp only [Exit.then, Exit.inBlock, ↓reduceIte, Nat.reduceEqDiff])
  refine hK17 _ _ ?_
  refine wp_ret ?_
  have h19 : Own eI 2 w6 w6.heap.size (.slice none ([] : List (Int)).length 0) [] := Own.nil
  (try simp only [Exit.then, Exit.inBlock, ↓reduceIte, Nat.reduceEqDiff])
  refine hQf _ _ _ ?_
  exact bodyPost_ret (v := .tuple #[.slice none 0 0, .int .i64 t4]) (by first | rfl | (simp [results, Try.results20, go_sem]; done) | (simp [results, Try.results20, go_sem]; rfl)) rfl ⟨none, 0, rfl, (h19.lower (hu7.out.size)), hu7.out⟩
 rw [if_pos c9] at H
 have c9n : (t4 != 0) = false := by rw [bne, c9]; rfl
 replace H := Option.bind_eq_some_iff.mp H
 obtain ⟨t11, A14, H⟩ := H
 replace A14 := Aside0.mk A14
 try dsimp only at H
 simp only [Option.some.injEq, Prod.mk.injEq] at H
 obtain ⟨rfl, rfl⟩ := H
 try simp only [c9, c9n, Bool.not_true, Bool.not_false]
 refine wp_cond_false rfl ?_
 refine wp_skip ?_
 (try simp only [Exit.then, Exit.inBlock, ↓reduceIte, Nat.reduceEqDiff])
 refine hK2 _ _ ?_
 refine wp_seq_k (fun K10 hK10 => ?_)
 refine wp_region_lit ?_
 refine wpp fun K_ h_ => ?_; go_simp; refine h_ _ _ ?_; clear h_ K_
 refine wpp fun K_ h_ => ?_; go_simp; refine h_ _ _ ?_; clear h_ K_
 refine step_call (wanted_none rfl) (by go_simp <;> rfl) (spec_l05Led.calls K a0 a1 0 t11 w6  A14.out) ?_
 rintro e w15 ⟨P12, q13, rfl, ht11, hu⟩
 have hu16 := Aside0.mk hu
 clear hu
 refine ⟨_, rfl, ?_⟩
 simp only [Act.put, nm1, nm2, nm3, i64_w]
 refine wpp fun K_ h_ => ?_; go_simp; refine h_ _ _ ?_; clear h_ K_
 refine wpp fun K_ h_ => ?_; go_simp; refine h_ _ _ ?_; clear h_ K_
 refine wpList_nil ?_
 (try simp only [Exit.then, Exit.inBlock, ↓reduceIte, Nat.reduceEqDiff])
 refine hK10 _ _ ?_
 refine wp_ret ?_
 (try simp only [Exit.then, Exit.inBlock, ↓reduceIte, Nat.reduceEqDiff])
 refine hQf _ _ _ ?_
 exact bodyPost_ret (v := .tuple #[.slice P12 t11.length q13, .int .i64 0]) (by first | rfl | (simp [results, Try.results20, go_sem]; done) | (simp [results, Try.results20, go_sem]; rfl)) rfl ⟨P12, q13, rfl, (ht11.lower (hu7.out.size)), (hu7.out.trans hu16.out)⟩

set_option maxHeartbeats 40000000 in
set_option maxRecDepth 100000 in
theorem impl_LedTo_1.calls (K : Nat) (bf0 : Nat) (f0_0 : Int) (bf1 : Nat) (f1_0 : Int) (bf2 : Nat) (f2_0 : Int) (r0 : Bool) (w : World) (hf0 : Blk w bf0 [.int .i64 f0_0] 2) (hf1 : Blk w bf1 [.int .i64 f1_0] 2) (hf2 : Blk w bf2 [.int .i64 f2_0] 2) (h : impl_LedTo_1.f K f0_0 f1_0 f2_0 = some (r0)) :
    Calls Try.prog 101 #[.pointer (some ⟨bf0, 0, none⟩), .pointer (some ⟨bf1, 0, none⟩), .pointer (some ⟨bf2, 0, none⟩)] w fun e w' => e = .returned (.bool r0) ∧ Up w w' := by
 have H : (((impl_isNumber.f K f0_0 f1_0).bind fun t3 => (if t3 = true then ((impl_isIndex.f K f2_0).bind fun t8 => some t8) else some false)) : Option (Bool)) = some (r0) := h
 clear h
 replace H := Option.bind_eq_some_iff.mp H
 obtain ⟨t3, A4, H⟩ := H
 replace A4 := Aside0.mk A4
 try dsimp only at H
 have ltbf0 := Aside0.mk hf0.lt
 have ltbf1 := Aside0.mk hf1.lt
 have ltbf2 := Aside0.mk hf2.lt
 go_enter Try.func101, Try.ntmps101
 refine wp_hide (fun Qf hQf => ?_)
 refine wp_seq_k (fun K1 hK1 => ?_)
 refine wp_region_lit ?_
 refine wpp fun K_ h_ => ?_; go_simp; refine h_ _ _ ?_; clear h_ K_
 refine wpList_nil ?_
 (try simp only [Exit.then, Exit.inBlock, ↓reduceIte, Nat.reduceEqDiff])
 refine hK1 _ _ ?_
 refine wp_seq_k (fun K2 hK2 => ?_)
 refine wp_region_lit ?_
 have cl0 := hf0.cell (o := 0) rfl
 refine wpp fun K_ h_ => ?_; go_simp; refine h_ _ _ ?_; clear h_ K_
 clear cl0
 have cl0 := hf1.cell (o := 0) rfl
 refine wpp fun K_ h_ => ?_; go_simp; refine h_ _ _ ?_; clear h_ K_
 clear cl0
 refine step_call (wanted_none rfl) (by go_simp <;> rfl) (impl_isNumber.calls K f0_0 f1_0 t3 w  A4.out) ?_
 rintro e w5 ⟨rfl, hu⟩
 have hu6 := Aside0.mk hu
 clear hu
 refine ⟨_, rfl, ?_⟩
 simp only [Act.put, nm1, nm2, nm3, i64_w]
 refine wpp fun K_ h_ => ?_; go_simp; refine h_ _ _ ?_; clear h_ K_
 by_cases c7 : (t3) = true
 rotate_left
 ·
  rw [if_neg c7] at H; replace c7 := Bool.eq_false_iff.mpr c7
  subst c7
  obtain rfl := Option.some.inj H
  refine step_no rfl ?_
  simp only [Act.put, nm1, nm2, nm3, i64_w]
  refine step_no rfl ?_
  simp only [Act.put, nm1, nm2, nm3, i64_w]
  refine wpp fun K_ h_ => ?_; go_simp; refine h_ _ _ ?_; clear h_ K_
  refine wpp fun K_ h_ => ?_; go_simp; refine h_ _ _ ?_; clear h_ K_
  refine wpList_nil ?_
  (try simp only [Exit.then, Exit.inBlock, ↓reduceIte, Nat.reduceEqDiff])
  refine hK2 _ _ ?_
  refine wp_ret ?_
  (try simp only [Exit.then, Exit.inBlock, ↓reduceIte, Nat.reduceEqDiff])
  refine hQf _ _ _ ?_
  exact bodyPost_ret (v := .bool false) (by first | rfl | (simp [results, Try.results101, go_sem]; done) | (simp [results, Try.results101, go_sem]; rfl)) rfl ⟨rfl, hu6.out⟩
 rw [if_pos c7] at H
 subst c7
 replace H := Option.bind_eq_some_iff.mp H
 obtain ⟨t8, A9, H⟩ := H
 replace A9 := Aside0.mk A9
 try dsimp only at H
 obtain rfl := Option.some.inj H
 have cl0 := (hf2.up hu6.out).cell (o := 0) rfl
 refine wpList_step fun K_ h_ => ?_; go_simp; refine h_ _ _ ?_; clear h_ K_
 clear cl0
 refine step_call rfl (by go_simp <;> rfl) (impl_isIndex.calls K f2_0 t8 w5  A9.out) ?_
 rintro e w10 ⟨rfl, hu⟩
 have hu11 := Aside0.mk hu
 clear hu
 refine ⟨_, rfl, ?_⟩
 simp only [Act.put, nm1, nm2, nm3, i64_w]
 refine wpp fun K_ h_ => ?_; go_simp; refine h_ _ _ ?_; clear h_ K_
 refine wpp fun K_ h_ => ?_; go_simp; refine h_ _ _ ?_; clear h_ K_
 refine wpList_nil ?_
 (try simp only [Exit.then, Exit.inBlock, ↓reduceIte, Nat.reduceEqDiff])
 refine hK2 _ _ ?_
 refine wp_ret ?_
 (try simp only [Exit.then, Exit.inBlock, ↓reduceIte, Nat.reduceEqDiff])
 refine hQf _ _ _ ?_
 exact bodyPost_ret (v := .bool t8) (by first | rfl | (simp [results, Try.results101, go_sem]; done) | (simp [results, Try.results101, go_sem]; rfl)) rfl ⟨rfl, (hu6.out.trans hu11.out)⟩

set_option maxHeartbeats 40000000 in
set_option maxRecDepth 100000 in
theorem impl_asked__impl_LedTo_1.calls (K : Nat) (a0 : Int) (bc1_0 : Nat) (c1_0_0 : Int) (bc1_1 : Nat) (c1_1_0 : Int) (bc1_2 : Nat) (c1_2_0 : Int) (r0 : Int) (w : World) (hc1_0 : Blk w bc1_0 [.int .i64 c1_0_0] 2) (hc1_1 : Blk w bc1_1 [.int .i64 c1_1_0] 2) (hc1_2 : Blk w bc1_2 [.int .i64 c1_2_0] 2) (h : impl_asked__impl_LedTo_1.f K a0 c1_0_0 c1_1_0 c1_2_0 = some (r0)) :
    Calls Try.prog 67 #[.int .i64 a0, .func (.func 101) #[] #[.pointer (some ⟨bc1_0, 0, none⟩), .pointer (some ⟨bc1_1, 0, none⟩), .pointer (some ⟨bc1_2, 0, none⟩)]] w fun e w' => e = .returned (.int .i64 r0) ∧ Up w w' := by
 have H : (((impl_IsField.f K a0).bind fun t4 => (if t4 = true then ((impl_LedTo_1.f K c1_0_0 c1_1_0 c1_2_0).bind fun t11 => (if t11 = true then some 0 else some 2)) else some 1)) : Option (Int)) = some (r0) := h
 clear h
 replace H := Option.bind_eq_some_iff.mp H
 obtain ⟨t4, A5, H⟩ := H
 replace A5 := Aside0.mk A5
 try dsimp only at H
 have ltbc1_0 := Aside0.mk hc1_0.lt
 have ltbc1_1 := Aside0.mk hc1_1.lt
 have ltbc1_2 := Aside0.mk hc1_2.lt
 go_enter Try.func67, Try.ntmps67
 refine wp_hide (fun Qf hQf => ?_)
 refine wp_seq_k (fun K1 hK1 => ?_)
 refine wp_region_lit ?_
 refine wpp fun K_ h_ => ?_; go_simp; refine h_ _ _ ?_; clear h_ K_
 refine wpList_nil ?_
 (try simp only [Exit.then, Exit.inBlock, ↓reduceIte, Nat.reduceEqDiff])
 refine hK1 _ _ ?_
 refine wp_seq_k (fun K2 hK2 => ?_)
 refine wp_seq_k (fun K3 hK3 => ?_)
 refine wp_region_lit ?_
 refine wpp fun K_ h_ => ?_; go_simp; refine h_ _ _ ?_; clear h_ K_
 refine step_call (wanted_none rfl) (by go_simp <;> rfl) (impl_IsField.calls K a0 t4 w  A5.out) ?_
 rintro e w6 ⟨rfl, hu⟩
 have hu7 := Aside0.mk hu
 clear hu
 refine ⟨_, rfl, ?_⟩
 simp only [Act.put, nm1, nm2, nm3, i64_w]
 refine wpp fun K_ h_ => ?_; go_simp; refine h_ _ _ ?_; clear h_ K_
 refine wpList_nil ?_
 (try simp only [Exit.then, Exit.inBlock, ↓reduceIte, Nat.reduceEqDiff])
 refine hK3 _ _ ?_
 by_cases c8 : (t4) = true
 rotate_left
 ·
  rw [if_neg c8] at H; replace c8 := Bool.eq_false_iff.mpr c8
  subst c8
  obtain rfl := Option.some.inj H
  refine wp_cond_true rfl ?_
  refine wp_seq_k (fun K18 hK18 => ?_)
  refine wp_region_lit ?_
  refine wpp fun K_ h_ => ?_; go_simp; refine h_ _ _ ?_; clear h_ K_
  refine wpList_nil ?_
  (try simp only [Exit.then, Exit.inBlock, ↓reduceIte, Nat.reduceEqDiff])
  refine hK18 _ _ ?_
  refine wp_ret ?_
  (try simp only [Exit.then, Exit.inBlock, ↓reduceIte, Nat.reduceEqDiff])
  refine hQf _ _ _ ?_
  exact bodyPost_ret (v := .int .i64 1) (by first | rfl | (simp [results, Try.results67, go_sem]; done) | (simp [results, Try.results67, go_sem]; rfl)) rfl ⟨rfl, hu7.out⟩
 rw [if_pos c8] at H
 subst c8
 replace H := Option.bind_eq_some_iff.mp H
 obtain ⟨t11, A12, H⟩ := H
 replace A12 := Aside0.mk A12
 try dsimp only at H
 refine wp_cond_false rfl ?_
 refine wp_skip ?_
 (try simp only [Exit.then, Exit.inBlock, ↓reduceIte, Nat.reduceEqDiff])
 refine hK2 _ _ ?_
 refine wp_seq_k (fun K9 hK9 => ?_)
 refine wp_seq_k (fun K10 hK10 => ?_)
 refine wp_region_lit ?_
 refine wpp fun K_ h_ => ?_; go_simp; refine h_ _ _ ?_; clear h_ K_
 refine step_call (wanted_none rfl) (by go_simp <;> rfl) (impl_LedTo_1.calls K bc1_0 c1_0_0 bc1_1 c1_1_0 bc1_2 c1_2_0 t11 w6 (hc1_0.up hu7.out) (hc1_1.up hu7.out) (hc1_2.up hu7.out) A12.out) ?_
 rintro e w13 ⟨rfl, hu⟩
 have hu14 := Aside0.mk hu
 clear hu
 refine ⟨_, rfl, ?_⟩
 simp only [Act.put, nm1, nm2, nm3, i64_w]
 refine wpp fun K_ h_ => ?_; go_simp; refine h_ _ _ ?_; clear h_ K_
 refine wpList_nil ?_
 (try simp only [Exit.then, Exit.inBlock, ↓reduceIte, Nat.reduceEqDiff])
 refine hK10 _ _ ?_
 by_cases c15 : (t11) = true
 rotate_left
 ·
  rw [if_neg c15] at H; replace c15 := Bool.eq_false_iff.mpr c15
  subst c15
  obtain rfl := Option.some.inj H
  refine wp_cond_true rfl ?_
  refine wp_seq_k (fun K17 hK17 => ?_)
  refine wp_region_lit ?_
  refine wpp fun K_ h_ => ?_; go_simp; refine h_ _ _ ?_; clear h_ K_
  refine wpList_nil ?_
  (try simp only [Exit.then, Exit.inBlock, ↓reduceIte, Nat.reduceEqDiff])
  refine hK17 _ _ ?_
  refine wp_ret ?_
  (try simp only [Exit.then, Exit.inBlock, ↓reduceIte, Nat.reduceEqDiff])
  refine hQf _ _ _ ?_
  exact bodyPost_ret (v := .int .i64 2) (by first | rfl | (simp [results, Try.results67, go_sem]; done) | (simp [results, Try.results67, go_sem]; rfl)) rfl ⟨rfl, (hu7.out.trans hu14.out)⟩
 rw [if_pos c15] at H
 subst c15
 obtain rfl := Option.some.inj H
 refine wp_cond_false rfl ?_
 refine wp_skip ?_
 (try simp only [Exit.then, Exit.inBlock, ↓reduceIte, Nat.reduceEqDiff])
 refine hK9 _ _ ?_
 refine wp_seq_k (fun K16 hK16 => ?_)
 refine wp_region_lit ?_
 refine wpp fun K_ h_ => ?_; go_simp; refine h_ _ _ ?_; clear h_ K_
 refine wpList_nil ?_
 (try simp only [Exit.then, Exit.inBlock, ↓reduceIte, Nat.reduceEqDiff])
 refine hK16 _ _ ?_
 refine wp_ret ?_
 (try simp only [Exit.then, Exit.inBlock, ↓reduceIte, Nat.reduceEqDiff])
 refine hQf _ _ _ ?_
 exact bodyPost_ret (v := .int .i64 0) (by first | rfl | (simp [results, Try.results67, go_sem]; done) | (simp [results, Try.results67, go_sem]; rfl)) rfl ⟨rfl, (hu7.out.trans hu14.out)⟩

set_option maxHeartbeats 40000000 in
set_option maxRecDepth 100000 in
theorem impl_LedTo_2.calls (K : Nat) (a0 : Int) (bf0 : Nat) (f0_0 : Int) (bf1 : Nat) (f1_0 : Int) (bf2 : Nat) (f2_0 : Int) (r0 : Bool) (w : World) (hf0 : Blk w bf0 [.int .i64 f0_0] 2) (hf1 : Blk w bf1 [.int .i64 f1_0] 2) (hf2 : Blk w bf2 [.int .i64 f2_0] 2) (h : impl_LedTo_2.f K a0 f0_0 f1_0 f2_0 = some (r0)) :
    Calls Try.prog 102 #[.int .i64 a0, .pointer (some ⟨bf0, 0, none⟩), .pointer (some ⟨bf1, 0, none⟩), .pointer (some ⟨bf2, 0, none⟩)] w fun e w' => e = .returned (.bool r0) ∧ Up w w' := by
 have H : (((impl_spreadOf.f K f0_0 f1_0 a0).bind fun t3 => some (t3 == f2_0)) : Option (Bool)) = some (r0) := h
 clear h
 replace H := Option.bind_eq_some_iff.mp H
 obtain ⟨t3, A4, H⟩ := H
 replace A4 := Aside0.mk A4
 try dsimp only at H
 obtain rfl := Option.some.inj H
 have ltbf0 := Aside0.mk hf0.lt
 have ltbf1 := Aside0.mk hf1.lt
 have ltbf2 := Aside0.mk hf2.lt
 go_enter Try.func102, Try.ntmps102
 refine wp_hide (fun Qf hQf => ?_)
 refine wp_seq_k (fun K1 hK1 => ?_)
 refine wp_region_lit ?_
 refine wpp fun K_ h_ => ?_; go_simp; refine h_ _ _ ?_; clear h_ K_
 refine wpList_nil ?_
 (try simp only [Exit.then, Exit.inBlock, ↓reduceIte, Nat.reduceEqDiff])
 refine hK1 _ _ ?_
 refine wp_seq_k (fun K2 hK2 => ?_)
 refine' wp_region_up 6 [Slot.det _, Slot.det _, Slot.det _, Slot.det (.int .i64 t3), Slot.det _, Slot.det _] (by kernel_rfl) (by kernel_rfl) ?main
 case main =>
  simp only [List.take_succ_cons, List.take_zero]
  refine wpK_ops rfl (fun w1 hu => ?_) ?_
  · have cl0 := (hf0.up ((Up.refl _).drew.trans hu)).cell (o := 0) rfl
    go_simp
    first | done | rfl
  simp only [Act.put, nm1, nm2, nm3, i64_w]
  refine wpK_ops rfl (fun w1 hu => ?_) ?_
  · have cl0 := (hf1.up ((Up.refl _).drew.trans hu)).cell (o := 0) rfl
    go_simp
    first | done | rfl
  simp only [Act.put, nm1, nm2, nm3, i64_w]
  refine wpK_ops rfl (fun w1 hu => ?_) ?_
  · clear hu
    go_simp
    first | done | rfl
  simp only [Act.put, nm1, nm2, nm3, i64_w]
  refine wpK_ops rfl (fun w1 hu => ?_) ?_
  · have hcl := (impl_spreadOf.calls K f0_0 f1_0 a0 t3 w1  A4.out)
    clear hu
    replace hcl := Aside0.mk hcl
    go_simp
    exact hcl.out
  simp only [Act.put, nm1, nm2, nm3, i64_w]
  refine wpK_ops rfl (fun w1 hu => ?_) ?_
  · have cl0 := (hf2.up ((Up.refl _).drew.trans hu)).cell (o := 0) rfl
    go_simp
    first | done | rfl
  simp only [Act.put, nm1, nm2, nm3, i64_w]
  refine wpK_ops rfl (fun w1 hu => ?_) ?_
  · clear hu
    go_simp
    first | done | rfl
  simp only [Act.put, nm1, nm2, nm3, i64_w]
  refine wpK_nil ?_
  intro w5 hu hap
  simp only [List.drop_succ_cons, List.drop_zero]
  replace hu := (Up.refl _).drew.trans hu
  clear hap
  have hu6 := Aside0.mk hu
  clear hu
  refine wpp fun K_ h_ => ?_; go_simp; refine h_ _ _ ?_; clear h_ K_
  refine wpList_nil ?_
  (try simp only [Exit.then, Exit.inBlock, ↓reduceIte, Nat.reduceEqDiff])
  refine hK2 _ _ ?_
  refine wp_ret ?_
  (try simp only [Exit.then, Exit.inBlock, ↓reduceIte, Nat.reduceEqDiff])
  refine hQf _ _ _ ?_
  exact bodyPost_ret (v := .bool (t3 == f2_0)) (by first | rfl | (simp [results, Try.results102, go_sem]; done) | (simp [results, Try.results102, go_sem]; rfl)) rfl ⟨rfl, hu6.out⟩

set_option maxHeartbeats 40000000 in
set_option maxRecDepth 100000 in
theorem impl_numbersWith__impl_LedTo_2.calls (K : Nat) (a0 : Int) (bc1_0 : Nat) (c1_0_0 : Int) (bc1_1 : Nat) (c1_1_0 : Int) (bc1_2 : Nat) (c1_2_0 : Int) (r0 : List (Int)) (w : World) (hc1_0 : Blk w bc1_0 [.int .i64 c1_0_0] 2) (hc1_1 : Blk w bc1_1 [.int .i64 c1_1_0] 2) (hc1_2 : Blk w bc1_2 [.int .i64 c1_2_0] 2) (h : impl_numbersWith__impl_LedTo_2.f K a0 c1_0_0 c1_1_0 c1_2_0 = some (r0)) :
    Calls Try.prog 98 #[.int .i64 a0, .func (.func 102) #[] #[.pointer (some ⟨bc1_0, 0, none⟩), .pointer (some ⟨bc1_1, 0, none⟩), .pointer (some ⟨bc1_2, 0, none⟩)]] w fun e w' => ∃ (Ar0 : Option Addr) (cr0 : Nat), e = .returned (.slice Ar0 r0.length cr0) ∧ Own eI 2 w' w.heap.size (.slice Ar0 r0.length cr0) r0 ∧ Up w w' := by
 have H : ((impl_numbersWith__impl_LedTo_2.l0 K a0 c1_0_0 c1_1_0 c1_2_0 K 0 ([] : List (Int))) : Option (List (Int))) = some (r0) := h
 clear h
 have ltbc1_0 := Aside0.mk hc1_0.lt
 have ltbc1_1 := Aside0.mk hc1_1.lt
 have ltbc1_2 := Aside0.mk hc1_2.lt
 go_enter Try.func98, Try.ntmps98
 refine wp_hide (fun Qf hQf => ?_)
 refine wp_seq_k (fun K1 hK1 => ?_)
 refine wp_region_lit ?_
 refine wpp fun K_ h_ => ?_; go_simp; refine h_ _ _ ?_; clear h_ K_
 refine wpList_nil ?_
 (try simp only [Exit.then, Exit.inBlock, ↓reduceIte, Nat.reduceEqDiff])
 refine hK1 _ _ ?_
 refine wp_seq_k (fun K2 hK2 => ?_)
 refine wp_region_lit ?_
 refine step_new (cs := []) (T := 2) (f := fun b => .slice (some ⟨b, 0, none⟩) 0 0) rfl (by go_simp <;> rfl) ?_
 intro b3 w4 hu lb hb3
 simp only [Act.put, nm1, nm2, nm3, i64_w]
 have lbb3 := Aside0.mk lb
 have ltb3 := Aside0.mk hb3.lt
 clear lb
 have hu5 := Aside0.mk hu
 clear hu
 refine wpp fun K_ h_ => ?_; go_simp; refine h_ _ _ ?_; clear h_ K_
 refine wpList_nil ?_
 (try simp only [Exit.then, Exit.inBlock, ↓reduceIte, Nat.reduceEqDiff])
 refine hK2 _ _ ?_
 refine wp_seq_k (fun K6 hK6 => ?_)
 refine wp_seq_k (fun K7 hK7 => ?_)
 refine wp_region_lit ?_
 refine wpp fun K_ h_ => ?_; go_simp; refine h_ _ _ ?_; clear h_ K_
 refine wpList_nil ?_
 (try simp only [Exit.then, Exit.inBlock, ↓reduceIte, Nat.reduceEqDiff])
 refine hK7 _ _ ?_
 refine wp_block ?_
 have h9 : Own eI 2 w4 w.heap.size (.slice (some ⟨b3, 0, none⟩) ([].length) 0) [] := Own.of_blk hb3 lbb3.out rfl (by simp) (by simp [Enc.flat, eI])
 have HL17 := Aside0.mk H
 clear H
 go_loopg [6, 5] K (fun kq v6 v5 w' => ∃ (x10 : Int) (x11 : List (Int)) (P12 : Option Addr) (q13 : Nat), v6 = .int .i64 x10 ∧ v5 = .slice P12 x11.length q13 ∧ Aside0 (impl_numbersWith__impl_LedTo_2.l0 K a0 c1_0_0 c1_1_0 c1_2_0 kq x10 x11 = some (r0)) ∧ Aside0 (kq ≤ K) ∧ Aside0 (Up w w') ∧ Aside0 (w4.heap.size ≤ w'.heap.size) ∧ Own eI 2 w' w.heap.size (.slice P12 x11.length q13) x11)
 case atStart => exact ⟨0, ([] : List (Int)), some ⟨b3, 0, none⟩, 0, (by first | rfl | simp), (by first | rfl | simp), HL17, ⟨Nat.le_refl _⟩, ⟨hu5.out⟩, ⟨Nat.le_refl _⟩, h9⟩
 case round =>
  rename_i J22 K23 hJ22 hK23
  obtain ⟨x10, x11, P12, q13, rfl, rfl, HL21, hk20, hu15, hz16, h18⟩ := hrel
  obtain ⟨w14, rfl⟩ : ∃ wo : World, wo = wr := ⟨_, rfl⟩
  obtain ⟨k19, rfl⟩ | rfl : (∃ k, gk = k + 1) ∨ gk = 0 := by rcases gk with _ | k; exact .inr rfl; exact .inl ⟨k, rfl⟩
  case inr => exact absurd HL21.out (by simp [impl_numbersWith__impl_LedTo_2.l0])
  have H := HL21.out
  clear HL21
  rw [impl_numbersWith__impl_LedTo_2.l0] at H
  refine wp_seq_k (fun K24 hK24 => ?_)
  refine wp_seq_k (fun K25 hK25 => ?_)
  refine wp_region_lit ?_
  refine wpp fun K_ h_ => ?_; go_simp; refine h_ _ _ ?_; clear h_ K_
  refine wpp fun K_ h_ => ?_; go_simp; refine h_ _ _ ?_; clear h_ K_
  refine wpp fun K_ h_ => ?_; go_simp; refine h_ _ _ ?_; clear h_ K_
  refine wpList_nil ?_
  (try simp only [Exit.then, Exit.inBlock, ↓reduceIte, Nat.reduceEqDiff])
  refine hK25 _ _ ?_
  by_cases c26 : (decide (x10 < a0)) = true
  rotate_left
  ·
   rw [if_neg c26] at H; replace c26 := Bool.eq_false_iff.mpr c26
   obtain rfl := Option.some.inj H
   try simp only [c26, Bool.not_true, Bool.not_false]
   refine wp_cond_false rfl ?_
   refine wp_exit ?_
   (try simp only [Exit.then, Exit.inBlock, ↓reduceIte, Nat.reduceEqDiff])
   refine hK6 _ _ ?_
   refine wp_seq_k (fun K51 hK51 => ?_)
   refine wp_region_lit ?_
   refine wpp fun K_ h_ => ?_; go_simp; refine h_ _ _ ?_; clear h_ K_
   refine wpp fun K_ h_ => ?_; go_simp; refine h_ _ _ ?_; clear h_ K_
   refine wpList_nil ?_
   (try simp only [Exit.then, Exit.inBlock, ↓reduceIte, Nat.reduceEqDiff])
   refine hK51 _ _ ?_
   refine wp_ret ?_
   (try simp only [Exit.then, Exit.inBlock, ↓reduceIte, Nat.reduceEqDiff])
   refine hQf _ _ _ ?_
   exact bodyPost_ret (v := .slice P12 x11.length q13) (by first | rfl | (simp [results, Try.results98, go_sem]; done) | (simp [results, Try.results98, go_sem]; rfl)) rfl ⟨P12, q13, rfl, (h18.lower (Nat.le_refl _)), hu15.out⟩
  rw [if_pos c26] at H
  replace H := Option.bind_eq_some_iff.mp H
  obtain ⟨t29, A30, H⟩ := H
  replace A30 := Aside0.mk A30
  try dsimp only at H
  try simp only [c26, Bool.not_true, Bool.not_false]
  refine wp_cond_true rfl ?_
  refine wp_skip ?_
  (try simp only [Exit.then, Exit.inBlock, ↓reduceIte, Nat.reduceEqDiff])
  refine hK24 _ _ ?_
  refine wp_seq_k (fun K27 hK27 => ?_)
  refine wp_block ?_
  refine wp_seq_k (fun K28 hK28 => ?_)
  refine wp_region_lit ?_
  refine wpp fun K_ h_ => ?_; go_simp; refine h_ _ _ ?_; clear h_ K_
  refine wpp fun K_ h_ => ?_; go_simp; refine h_ _ _ ?_; clear h_ K_
  refine step_call (wanted_none rfl) (by go_simp <;> rfl) (impl_LedTo_2.calls K x10 bc1_0 c1_0_0 bc1_1 c1_1_0 bc1_2 c1_2_0 t29 w14 (hc1_0.up hu15.out) (hc1_1.up hu15.out) (hc1_2.up hu15.out) A30.out) ?_
  rintro e w31 ⟨rfl, hu⟩
  have hu32 := Aside0.mk hu
  clear hu
  refine ⟨_, rfl, ?_⟩
  simp only [Act.put, nm1, nm2, nm3, i64_w]
  refine wpList_nil ?_
  (try simp only [Exit.then, Exit.inBlock, ↓reduceIte, Nat.reduceEqDiff])
  refine hK28 _ _ ?_
  by_cases c33 : (t29) = true
  rotate_left
  ·
   rw [if_neg c33] at H; replace c33 := Bool.eq_false_iff.mpr c33
   subst c33
   have HL50 := Aside0.mk H
   clear H
   refine wp_cond_false rfl ?_
   refine wp_skip ?_
   (try simp only [Exit.then, Exit.inBlock, ↓reduceIte, Nat.reduceEqDiff])
   refine hK27 _ _ ?_
   refine wp_region_lit ?_
   refine wpp fun K_ h_ => ?_; go_simp; refine h_ _ _ ?_; clear h_ K_
   refine wpp fun K_ h_ => ?_; go_simp; refine h_ _ _ ?_; clear h_ K_
   refine wpp fun K_ h_ => ?_; go_simp; refine h_ _ _ ?_; clear h_ K_
   refine wpList_nil ?_
   (try simp only [Exit.then, Exit.inBlock, ↓reduceIte, Nat.reduceEqDiff])
   refine hK23 _ _ ?_
   go_roundg k19
   case measure => exact Nat.lt_succ_self _
   case rel => exact ⟨wrap64 (x10 + 1), x11, P12, q13, (by first | rfl | simp), (by first | rfl | simp), HL50, ⟨by have := hk20.out; omega⟩, ⟨(hu15.out.trans hu32.out)⟩, ⟨(Nat.le_trans ((Nat.le_trans (Nat.le_refl _) hz16.out)) hu32.out.size)⟩, (h18.up hu32.out)⟩
  rw [if_pos c33] at H
  subst c33
  refine wp_cond_true rfl ?_
  refine wp_region_lit ?_
  refine wpp fun K_ h_ => ?_; go_simp; refine h_ _ _ ?_; clear h_ K_
  refine wpp fun K_ h_ => ?_; go_simp; refine h_ _ _ ?_; clear h_ K_
  refine step_new (cs := [.int .i64 x10]) (T := 2) (f := fun b => .slice (some ⟨b, 0, none⟩) 1 1) rfl (by go_simp <;> rfl) ?_
  intro b34 w35 hu lb hb34
  simp only [Act.put, nm1, nm2, nm3, i64_w]
  have lbb34 := Aside0.mk lb
  have ltb34 := Aside0.mk hb34.lt
  clear lb
  have hu36 := Aside0.mk hu
  clear hu
  have hm38 := Aside0.mk (Nat.le_trans ((Nat.le_trans ((Nat.le_trans (hu5.out.size) hz16.out)) hu32.out.size)) hu36.out.size)
  have hm39 := Aside0.mk (Nat.le_trans ((Nat.le_trans ((Nat.le_trans (Nat.le_refl _) hz16.out)) hu32.out.size)) hu36.out.size)
  by_cases c37 : (decide (x11.length ≤ 1000000)) = true
  rotate_left
  ·
   rw [if_neg c37] at H; replace c37 := Bool.eq_false_iff.mpr c37
   exact absurd H (by simp)
  rw [if_pos c37] at H
  have HL49 := Aside0.mk H
  clear H
  try simp only [c37, Bool.not_true, Bool.not_false]
  have hO0 := Aside0.mk (h18.up (hu32.out.trans hu36.out))
  refine step_append eI (z := .int .i64 0) (bytes := 8) (base := w.heap.size) (xs := x11) (ys := [x10]) (wanted_none rfl) _ _ rfl rfl (by kernel_rfl) rfl (by decide) rfl rfl rfl hO0.out (Rd.of_blk (E := eI) (xs := [x10]) (o := 0) hb34 (by simp) (fun j u hu => by rcases j with _ | j <;> simp_all [Enc.flat, eI])) (hm38.out) (by have h0_ := (of_decide_eq_true (by assumption) : x11.length ≤ 1000000); (try simp only [List.length_cons, List.length_nil]); omega) ?_
  intro P40 q41 w42 h44 hg hat
  have hg45 := Aside0.mk hg
  have hat46 := Aside0.mk hat
  simp only [Act.put, nm1, nm2, nm3, i64_w]
  have lb47 := Aside0.mk hO0.out.lt
  clear hO0 hg hat
  have h48 := hb34.grow hg45.out (fun k hk => Nat.ne_of_lt (Nat.lt_of_lt_of_le ((fun k hk => Nat.lt_of_lt_of_le (h18.lt k hk).2 (hu32.out.size)) k hk) lbb34.out))
  refine wpp fun K_ h_ => ?_; go_simp; refine h_ _ _ ?_; clear h_ K_
  refine wpList_nil ?_
  (try simp only [Exit.then, Exit.inBlock, ↓reduceIte, Nat.reduceEqDiff])
  refine hK27 _ _ ?_
  refine wp_region_lit ?_
  refine wpp fun K_ h_ => ?_; go_simp; refine h_ _ _ ?_; clear h_ K_
  refine wpp fun K_ h_ => ?_; go_simp; refine h_ _ _ ?_; clear h_ K_
  refine wpp fun K_ h_ => ?_; go_simp; refine h_ _ _ ?_; clear h_ K_
  refine wpList_nil ?_
  (try simp only [Exit.then, Exit.inBlock, ↓reduceIte, Nat.reduceEqDiff])
  refine hK23 _ _ ?_
  go_roundg k19
  case measure => exact Nat.lt_succ_self _
  case rel => exact ⟨wrap64 (x10 + 1), (x11 ++ [x10]), P40, q41, (by first | rfl | simp), (by first | rfl | simp), HL49, ⟨by have := hk20.out; omega⟩, ⟨(((hu15.out.trans hu32.out).trans hu36.out).grow hg45.out (fun k hk => Nat.le_trans (Nat.le_refl _) ((fun k hk => (lb47.out k hk).1) k hk)))⟩, ⟨(Nat.le_trans (hm39.out) hg45.out.size)⟩, h44⟩

set_option maxHeartbeats 40000000 in
set_option maxRecDepth 100000 in
theorem impl_LedTo.calls (K : Nat) (a0 : Int) (a1 : Int) (a2 : Int) (r0 : List (Int)) (r1 : Int) (w : World)  (h : impl_LedTo.f K a0 a1 a2 = some (r0, r1)) :
    Calls Try.prog 21 #[.int .i64 a0, .int .i64 a1, .int .i64 a2] w fun e w' => ∃ (Ar0 : Option Addr) (cr0 : Nat), e = .returned (.tuple #[.slice Ar0 r0.length cr0, .int .i64 r1]) ∧ Own eI 2 w' w.heap.size (.slice Ar0 r0.length cr0) r0 ∧ Up w w' := by
 have H : (((impl_asked__impl_LedTo_1.f K a0 a0 a2 a1).bind fun t13 => (if (t13 == 0) = true then ((impl_numbersWith__impl_LedTo_2.f K a0 a0 a1 a2).bind fun t21 => some (t21, 0)) else some ([], t13))) : Option (List (Int) × Int)) = some (r0, r1) := h
 clear h
 replace H := Option.bind_eq_some_iff.mp H
 obtain ⟨t13, A14, H⟩ := H
 replace A14 := Aside0.mk A14
 try dsimp only at H
 go_enter Try.func21, Try.ntmps21
 refine wp_hide (fun Qf hQf => ?_)
 refine wp_seq_k (fun K1 hK1 => ?_)
 refine wp_region_lit ?_
 refine step_new (cs := [.int .i64 a0]) (T := 2) (f := fun b => .pointer (some ⟨b, 0, none⟩)) rfl (by go_simp <;> rfl) ?_
 intro b2 w3 hu lb hb2
 simp only [Act.put, nm1, nm2, nm3, i64_w]
 have lbb2 := Aside0.mk lb
 have ltb2 := Aside0.mk hb2.lt
 clear lb
 have hu4 := Aside0.mk hu
 clear hu
 refine step_new (cs := [.int .i64 a1]) (T := 2) (f := fun b => .pointer (some ⟨b, 0, none⟩)) rfl (by go_simp <;> rfl) ?_
 intro b5 w6 hu lb hb5
 simp only [Act.put, nm1, nm2, nm3, i64_w]
 have lbb5 := Aside0.mk lb
 have ltb5 := Aside0.mk hb5.lt
 clear lb
 have hu7 := Aside0.mk hu
 clear hu
 refine step_new (cs := [.int .i64 a2]) (T := 2) (f := fun b => .pointer (some ⟨b, 0, none⟩)) rfl (by go_simp <;> rfl) ?_
 intro b8 w9 hu lb hb8
 simp only [Act.put, nm1, nm2, nm3, i64_w]
 have lbb8 := Aside0.mk lb
 have ltb8 := Aside0.mk hb8.lt
 clear lb
 have hu10 := Aside0.mk hu
 clear hu
 refine wpp fun K_ h_ => ?_; go_simp; refine h_ _ _ ?_; clear h_ K_
 refine wpp fun K_ h_ => ?_; go_simp; refine h_ _ _ ?_; clear h_ K_
 refine wpList_nil ?_
 (try simp only [Exit.then, Exit.inBlock, ↓reduceIte, Nat.reduceEqDiff])
 refine hK1 _ _ ?_
 refine wp_seq_k (fun K11 hK11 => ?_)
 refine wp_seq_k (fun K12 hK12 => ?_)
 refine wp_region_lit ?_
 have cl0 := (hb2.up (hu7.out.trans hu10.out)).cell (o := 0) rfl
 refine wpp fun K_ h_ => ?_; go_simp; refine h_ _ _ ?_; clear h_ K_
 clear cl0
 refine wpp fun K_ h_ => ?_; go_simp; refine h_ _ _ ?_; clear h_ K_
 refine step_call (wanted_none rfl) (by go_simp <;> rfl) (impl_asked__impl_LedTo_1.calls K a0 b2 a0 b8 a2 b5 a1 t13 w9 (hb2.up (hu7.out.trans hu10.out)) hb8 (hb5.up hu10.out) A14.out) ?_
 rintro e w15 ⟨rfl, hu⟩
 have hu16 := Aside0.mk hu
 clear hu
 refine ⟨_, rfl, ?_⟩
 simp only [Act.put, nm1, nm2, nm3, i64_w]
 refine wpp fun K_ h_ => ?_; go_simp; refine h_ _ _ ?_; clear h_ K_
 refine wpList_nil ?_
 (try simp only [Exit.then, Exit.inBlock, ↓reduceIte, Nat.reduceEqDiff])
 refine hK12 _ _ ?_
 refine wp_seq_k (fun K17 hK17 => ?_)
 refine wp_region_lit ?_
 refine wpp fun K_ h_ => ?_; go_simp; refine h_ _ _ ?_; clear h_ K_
 refine wpp fun K_ h_ => ?_; go_simp; refine h_ _ _ ?_; clear h_ K_
 refine wpList_nil ?_
 (try simp only [Exit.then, Exit.inBlock, ↓reduceIte, Nat.reduceEqDiff])
 refine hK17 _ _ ?_
 have hm19 := Aside0.mk (Nat.le_trans ((Nat.le_trans ((Nat.le_trans (hu4.out.size) hu7.out.size)) hu10.out.size)) hu16.out.size)
 by_cases c18 : (t13 == 0) = true
 rotate_left
 ·
  rw [if_neg c18] at H; replace c18 := Bool.eq_false_iff.mpr c18
  have c18n : (t13 != 0) = true := by rw [bne, c18]; rfl
  have c18p : ¬ t13 = 0 := fun e => by simp [e] at c18
  simp only [Option.some.injEq, Prod.mk.injEq] at H
  obtain ⟨rfl, rfl⟩ := H
  try simp only [c18, c18n, Bool.not_true, Bool.not_false]
  refine wp_cond_true rfl ?_
  refine wp_seq_k (fun K27 hK27 => ?_)
  refine wp_region_lit ?_
  refine wpp fun K_ h_ => ?_; go_simp; refine h_ _ _ ?_; clear h_ K_
  refine wpp fun K_ h_ => ?_; go_simp; refine h_ _ _ ?_; clear h_ K_
  refine wpp fun K_ h_ => ?_; go_simp; refine h_ _ _ ?_; clear h_ K_
  refine wpList_nil ?_
  (try simp only [Exit.then, Exit.inBlock, ↓reduceIte, Nat.reduceEqDiff])
  refine hK27 _ _ ?_
  refine wp_ret ?_
  have h29 : Own eI 2 w15 w15.heap.size (.slice none ([] : List (Int)).length 0) [] := Own.nil
  (try simp only [Exit.then, Exit.inBlock, ↓reduceIte, Nat.reduceEqDiff])
  refine hQf _ _ _ ?_
  exact bodyPost_ret (v := .tuple #[.slice none 0 0, .int .i64 t13]) (by first | rfl | (simp [results, Try.results21, go_sem]; done) | (simp [results, Try.results21, go_sem]; rfl)) rfl ⟨none, 0, rfl, (h29.lower (hm19.out)), (((hu4.out.trans hu7.out).trans hu10.out).trans hu16.out)⟩
 rw [if_pos c18] at H
 have c18n : (t13 != 0) = false := by rw [bne, c18]; rfl
 replace H := Option.bind_eq_some_iff.mp H
 obtain ⟨t21, A24, H⟩ := H
 replace A24 := Aside0.mk A24
 try dsimp only at H
 simp only [Option.some.injEq, Prod.mk.injEq] at H
 obtain ⟨rfl, rfl⟩ := H
 try simp only [c18, c18n, Bool.not_true, Bool.not_false]
 refine wp_cond_false rfl ?_
 refine wp_skip ?_
 (try simp only [Exit.then, Exit.inBlock, ↓reduceIte, Nat.reduceEqDiff])
 refine hK11 _ _ ?_
 refine wp_seq_k (fun K20 hK20 => ?_)
 refine wp_region_lit ?_
 have cl0 := (hb2.up ((hu7.out.trans hu10.out).trans hu16.out)).cell (o := 0) rfl
 refine wpp fun K_ h_ => ?_; go_simp; refine h_ _ _ ?_; clear h_ K_
 clear cl0
 refine wpp fun K_ h_ => ?_; go_simp; refine h_ _ _ ?_; clear h_ K_
 refine step_call (wanted_none rfl) (by go_simp <;> rfl) (impl_numbersWith__impl_LedTo_2.calls K a0 b2 a0 b5 a1 b8 a2 t21 w15 (hb2.up ((hu7.out.trans hu10.out).trans hu16.out)) (hb5.up (hu10.out.trans hu16.out)) (hb8.up hu16.out) A24.out) ?_
 rintro e w25 ⟨P22, q23, rfl, ht21, hu⟩
 have hu26 := Aside0.mk hu
 clear hu
 refine ⟨_, rfl, ?_⟩
 simp only [Act.put, nm1, nm2, nm3, i64_w]
 refine wpp fun K_ h_ => ?_; go_simp; refine h_ _ _ ?_; clear h_ K_
 refine wpp fun K_ h_ => ?_; go_simp; refine h_ _ _ ?_; clear h_ K_
 refine wpList_nil ?_
 (try simp only [Exit.then, Exit.inBlock, ↓reduceIte, Nat.reduceEqDiff])
 refine hK20 _ _ ?_
 refine wp_ret ?_
 (try simp only [Exit.then, Exit.inBlock, ↓reduceIte, Nat.reduceEqDiff])
 refine hQf _ _ _ ?_
 exact bodyPost_ret (v := .tuple #[.slice P22 t21.length q23, .int .i64 0]) (by first | rfl | (simp [results, Try.results21, go_sem]; done) | (simp [results, Try.results21, go_sem]; rfl)) rfl ⟨P22, q23, rfl, (ht21.lower (hm19.out)), ((((hu4.out.trans hu7.out).trans hu10.out).trans hu16.out).trans hu26.out)⟩

set_option maxHeartbeats 40000000 in
set_option maxRecDepth 100000 in
theorem spec_LedTo.calls (K : Nat) (a0 : Int) (a1 : Int) (a2 : Int) (r0 : List (Int)) (r1 : Int) (w : World)  (h : spec_LedTo.f K a0 a1 a2 = some (r0, r1)) :
    Calls Try.prog 22 #[.int .i64 a0, .int .i64 a1, .int .i64 a2] w fun e w' => ∃ (Ar0 : Option Addr) (cr0 : Nat), e = .returned (.tuple #[.slice Ar0 r0.length cr0, .int .i64 r1]) ∧ Own eI 2 w' w.heap.size (.slice Ar0 r0.length cr0) r0 ∧ Up w w' := by
 have H : (((spec_l05Code.f K a0 a1 ([a2])).bind fun t7 => (if (t7 == 0) = true then ((spec_l05Led.f K a0 a1 a2).bind fun t14 => some (t14, 0)) else some ([], t7))) : Option (List (Int) × Int)) = some (r0, r1) := h
 clear h
 replace H := Option.bind_eq_some_iff.mp H
 obtain ⟨t7, A8, H⟩ := H
 replace A8 := Aside0.mk A8
 try dsimp only at H
 go_enter Try.func22, Try.ntmps22
 refine wp_hide (fun Qf hQf => ?_)
 refine wp_seq_k (fun K1 hK1 => ?_)
 refine wp_region_lit ?_
 refine wpp fun K_ h_ => ?_; go_simp; refine h_ _ _ ?_; clear h_ K_
 refine wpp fun K_ h_ => ?_; go_simp; refine h_ _ _ ?_; clear h_ K_
 refine wpList_nil ?_
 (try simp only [Exit.then, Exit.inBlock, ↓reduceIte, Nat.reduceEqDiff])
 refine hK1 _ _ ?_
 refine wp_seq_k (fun K2 hK2 => ?_)
 refine wp_seq_k (fun K3 hK3 => ?_)
 refine wp_region_lit ?_
 refine wpp fun K_ h_ => ?_; go_simp; refine h_ _ _ ?_; clear h_ K_
 refine wpp fun K_ h_ => ?_; go_simp; refine h_ _ _ ?_; clear h_ K_
 refine wpp fun K_ h_ => ?_; go_simp; refine h_ _ _ ?_; clear h_ K_
 refine step_new (cs := [.int .i64 a2]) (T := 2) (f := fun b => .slice (some ⟨b, 0, none⟩) 1 1) rfl (by go_simp <;> rfl) ?_
 intro b4 w5 hu lb hb4
 simp only [Act.put, nm1, nm2, nm3, i64_w]
 have lbb4 := Aside0.mk lb
 have ltb4 := Aside0.mk hb4.lt
 clear lb
 have hu6 := Aside0.mk hu
 clear hu
 refine step_call (wanted_none rfl) (by go_simp <;> rfl) (spec_l05Code.calls K a0 a1 (some ⟨b4, 0, none⟩) 1 ([a2]) t7 w5 (Rd.of_blk (E := eI) (xs := [a2]) (o := 0) hb4 (by simp) (fun j u hu => by rcases j with _ | j <;> simp_all [Enc.flat, eI])) A8.out) ?_
 rintro e w9 ⟨rfl, hu⟩
 have hu10 := Aside0.mk hu
 clear hu
 refine ⟨_, rfl, ?_⟩
 simp only [Act.put, nm1, nm2, nm3, i64_w]
 refine wpp fun K_ h_ => ?_; go_simp; refine h_ _ _ ?_; clear h_ K_
 refine wpList_nil ?_
 (try simp only [Exit.then, Exit.inBlock, ↓reduceIte, Nat.reduceEqDiff])
 refine hK3 _ _ ?_
 refine wp_seq_k (fun K11 hK11 => ?_)
 refine wp_region_lit ?_
 refine wpp fun K_ h_ => ?_; go_simp; refine h_ _ _ ?_; clear h_ K_
 refine wpp fun K_ h_ => ?_; go_simp; refine h_ _ _ ?_; clear h_ K_
 refine wpList_nil ?_
 (try simp only [Exit.then, Exit.inBlock, ↓reduceIte, Nat.reduceEqDiff])
 refine hK11 _ _ ?_
 by_cases c12 : (t7 == 0) = true
 rotate_left
 ·
  rw [if_neg c12] at H; replace c12 := Bool.eq_false_iff.mpr c12
  have c12n : (t7 != 0) = true := by rw [bne, c12]; rfl
  have c12p : ¬ t7 = 0 := fun e => by simp [e] at c12
  simp only [Option.some.injEq, Prod.mk.injEq] at H
  obtain ⟨rfl, rfl⟩ := H
  try simp only [c12, c12n, Bool.not_true, Bool.not_false]
  refine wp_cond_true rfl ?_
  refine wp_seq_k (fun K20 hK20 => ?_)
  refine wp_region_lit ?_
  refine wpp fun K_ h_ => ?_; go_simp; refine h_ _ _ ?_; clear h_ K_
  refine wpp fun K_ h_ => ?_; go_simp; refine h_ _ _ ?_; clear h_ K_
  refine wpp fun K_ h_ => ?_; go_simp; refine h_ _ _ ?_; clear h_ K_
  refine wpList_nil ?_
  (try simp only [Exit.then, Exit.inBlock, ↓reduceIte, Nat.reduceEqDiff])
  refine hK20 _ _ ?_
  refine wp_ret ?_
  have h22 : Own eI 2 w9 w9.heap.size (.slice none ([] : List (Int)).length 0) [] := Own.nil
  (try simp only [Exit.then, Exit.inBlock, ↓reduceIte, Nat.reduceEqDiff])
  refine hQf _ _ _ ?_
  exact bodyPost_ret (v := .tuple #[.slice none 0 0, .int .i64 t7]) (by first | rfl | (simp [results, Try.results22, go_sem]; done) | (simp [results, Try.results22, go_sem]; rfl)) rfl ⟨none, 0, rfl, (h22.lower ((Nat.le_trans (hu6.out.size) hu10.out.size))), (hu6.out.trans hu10.out)⟩
 rw [if_pos c12] at H
 have c12n : (t7 != 0) = false := by rw [bne, c12]; rfl
 replace H := Option.bind_eq_some_iff.mp H
 obtain ⟨t14, A17, H⟩ := H
 replace A17 := Aside0.mk A17
 try dsimp only at H
 simp only [Option.some.injEq, Prod.mk.injEq] at H
 obtain ⟨rfl, rfl⟩ := H
 try simp only [c12, c12n, Bool.not_true, Bool.not_false]
 refine wp_cond_false rfl ?_
 refine wp_skip ?_
 (try simp only [Exit.then, Exit.inBlock, ↓reduceIte, Nat.reduceEqDiff])
 refine hK2 _ _ ?_
 refine wp_seq_k (fun K13 hK13 => ?_)
 refine wp_region_lit ?_
 refine wpp fun K_ h_ => ?_; go_simp; refine h_ _ _ ?_; clear h_ K_
 refine wpp fun K_ h_ => ?_; go_simp; refine h_ _ _ ?_; clear h_ K_
 refine wpp fun K_ h_ => ?_; go_simp; refine h_ _ _ ?_; clear h_ K_
 refine step_call (wanted_none rfl) (by go_simp <;> rfl) (spec_l05Led.calls K a0 a1 a2 t14 w9  A17.out) ?_
 rintro e w18 ⟨P15, q16, rfl, ht14, hu⟩
 have hu19 := Aside0.mk hu
 clear hu
 refine ⟨_, rfl, ?_⟩
 simp only [Act.put, nm1, nm2, nm3, i64_w]
 refine wpp fun K_ h_ => ?_; go_simp; refine h_ _ _ ?_; clear h_ K_
 refine wpp fun K_ h_ => ?_; go_simp; refine h_ _ _ ?_; clear h_ K_
 refine wpList_nil ?_
 (try simp only [Exit.then, Exit.inBlock, ↓reduceIte, Nat.reduceEqDiff])
 refine hK13 _ _ ?_
 refine wp_ret ?_
 (try simp only [Exit.then, Exit.inBlock, ↓reduceIte, Nat.reduceEqDiff])
 refine hQf _ _ _ ?_
 exact bodyPost_ret (v := .tuple #[.slice P15 t14.length q16, .int .i64 0]) (by first | rfl | (simp [results, Try.results22, go_sem]; done) | (simp [results, Try.results22, go_sem]; rfl)) rfl ⟨P15, q16, rfl, (ht14.lower ((Nat.le_trans (hu6.out.size) hu10.out.size))), ((hu6.out.trans hu10.out).trans hu19.out)⟩

end Go.Proofs.Ytccbmdpikalpfaa
