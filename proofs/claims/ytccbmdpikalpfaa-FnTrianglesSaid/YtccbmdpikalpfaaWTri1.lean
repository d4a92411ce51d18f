/- The walks: each of these functions of the program computes what its plain function says: laws_big, spec_l01From, spec_l01Next, spec_l01Pick, spec_l01DrawField, spec_l01DrawPoint, spec_l01Mod, spec_l01Area, spec_l04DrawOf, spec_l02DrawColour, spec_l01Plus, spec_l01Times, spec_l01Middle, spec_l01BadField, spec_l01BadPoint, spec_l04Draw, spec_DrawQuadreaOf, spec_DrawOrthocentreOf. -/
import Derived.Test.YtccbmdpikalpfaaProg
import Derived.Test.YtccbmdpikalpfaaD1
import Derived.WalkKit
import Derived.KernelRfl
import Derived.BigQuiet
import Derived.Deep.LoopGhost
import Derived.Laws.StructEq
namespace Go.Proofs.Ytccbmdpikalpfaa
open Go Go.RowKit
attribute [local go_sem] Oper.quiet Oper.quietAt Oper.quietUpon Act.put nm1 nm2 nm3 i64_w
attribute [local irreducible] wpList
set_option linter.unusedVariables false
set_option linter.unusedSimpArgs false

theorem eqD30 (a0 a1 b0 b1 : Int) (d : Nat) (w : World) : (Op.equalIn (d + 2) 30 (.agg #[.int .i64 a0, .int .i64 a1]) (.agg #[.int .i64 b0, .int .i64 b1])).run Try.prog w = .ok (a0 == b0 && a1 == b1) w := by
  rw [Op.equalIn]
  simp only [Sem.run_bind, run_underlying Try.underlying30, Result.andThen_ok]
  simp only [Std.Legacy.Range.forIn_eq_forIn_range', Std.Legacy.Range.size, Nat.sub_zero, Nat.add_sub_cancel, Nat.div_one, List.range'_succ, List.range'_zero, List.forIn_cons, List.forIn_nil]
  go_simp
  by_cases h0 : a0 = b0 <;> by_cases h1 : a1 = b1 <;> simp [h0, h1]
theorem eqT30 (a0 a1 b0 b1 : Int) (w : World) : (Op.equalIn 10000 30 (.agg #[.int .i64 a0, .int .i64 a1]) (.agg #[.int .i64 b0, .int .i64 b1])).run Try.prog w = .ok (a0 == b0 && a1 == b1) w := eqD30 a0 a1 b0 b1 9998 w

theorem eqD34 (a0 a1 a2 b0 b1 b2 : Int) (d : Nat) (w : World) : (Op.equalIn (d + 2) 34 (.agg #[.int .i64 a0, .int .i64 a1, .int .i64 a2]) (.agg #[.int .i64 b0, .int .i64 b1, .int .i64 b2])).run Try.prog w = .ok (a0 == b0 && (a1 == b1 && a2 == b2)) w := by
  rw [Op.equalIn]
  simp only [Sem.run_bind, run_underlying Try.underlying34, Result.andThen_ok]
  simp only [Std.Legacy.Range.forIn_eq_forIn_range', Std.Legacy.Range.size, Nat.sub_zero, Nat.add_sub_cancel, Nat.div_one, List.range'_succ, List.range'_zero, List.forIn_cons, List.forIn_nil]
  go_simp
  by_cases h0 : a0 = b0 <;> by_cases h1 : a1 = b1 <;> by_cases h2 : a2 = b2 <;> simp [h0, h1, h2]
theorem eqT34 (a0 a1 a2 b0 b1 b2 : Int) (w : World) : (Op.equalIn 10000 34 (.agg #[.int .i64 a0, .int .i64 a1, .int .i64 a2]) (.agg #[.int .i64 b0, .int .i64 b1, .int .i64 b2])).run Try.prog w = .ok (a0 == b0 && (a1 == b1 && a2 == b2)) w := eqD34 a0 a1 a2 b0 b1 b2 9998 w
attribute [local go_sem] eqT30
attribute [local go_sem] eqT34

set_option maxHeartbeats 40000000 in
set_option maxRecDepth 100000 in
theorem laws_big.calls (K : Nat) (a0_A : Option Addr) (a0_c : Nat) (a0 : List (Int)) (r0 : Bool) (w : World) (ha0 : Rd eU8 w a0_A a0) (h : laws_big.f K a0 = some (r0)) :
    Calls Try.prog 7 #[.slice a0_A a0.length a0_c] w fun e w' => e = .returned (.bool r0) ∧ Up w w' := by
 have H : (some (decide (4096 < (a0.length : Int))) : Option (Bool)) = some (r0) := h
 clear h
 obtain rfl := Option.some.inj H
 go_enter Try.func7, Try.ntmps7
 refine wp_hide (fun Qf hQf => ?_)
 refine wp_seq_k (fun K1 hK1 => ?_)
 refine wp_region_lit ?_
 refine wpp fun K_ h_ => ?_; go_simp; refine h_ _ _ ?_; clear h_ K_
 refine wpList_nil ?_
 (try simp only [Exit.then, Exit.inBlock, ↓reduceIte, Nat.reduceEqDiff])
 refine hK1 _ _ ?_
 refine wp_seq_k (fun K2 hK2 => ?_)
 refine wp_region_lit ?_
 refine wpp fun K_ h_ => ?_; go_simp; refine h_ _ _ ?_; clear h_ K_
 refine wpp fun K_ h_ => ?_; go_simp; refine h_ _ _ ?_; clear h_ K_
 refine wpp fun K_ h_ => ?_; go_simp; refine h_ _ _ ?_; clear h_ K_
 refine wpp fun K_ h_ => ?_; go_simp; refine h_ _ _ ?_; clear h_ K_
 refine wpList_nil ?_
 (try simp only [Exit.then, Exit.inBlock, ↓reduceIte, Nat.reduceEqDiff])
 refine hK2 _ _ ?_
 refine wp_ret ?_
 (try simp only [Exit.then, Exit.inBlock, ↓reduceIte, Nat.reduceEqDiff])
 refine hQf _ _ _ ?_
 exact bodyPost_ret (v := .bool (decide (4096 < (a0.length : Int)))) (by first | rfl | (simp [results, Try.results7, go_sem]; done) | (simp [results, Try.results7, go_sem]; rfl)) rfl ⟨rfl, (Up.refl _)⟩

set_option maxHeartbeats 40000000 in
set_option maxRecDepth 100000 in
theorem spec_l01From.calls (K : Nat) (a0_A : Option Addr) (a0_c : Nat) (a0 : List (Int)) (r0 : Int) (r1 : Int) (w : World) (ha0 : Rd eU8 w a0_A a0) (h : spec_l01From.f K a0 = some (r0, r1)) :
    Calls Try.prog 105 #[.slice a0_A a0.length a0_c] w fun e w' => ∃ (br : Nat), e = .returned (.pointer (some ⟨br, 0, none⟩)) ∧ Blk w' br [.slice a0_A a0.length a0_c, .int .i64 r0, .int .u64 r1] 158 ∧ Aside0 (w.heap.size ≤ br) ∧ Up w w' := by
 have H : ((spec_l01From.l0 K a0 K 0 0 (IntKind.u64.wrap (13701 + (IntKind.u64.wrap ((a0.length : Int)))))) : Option (Int × Int)) = some (r0, r1) := h
 clear h
 go_enter Try.func105, Try.ntmps105
 refine wp_hide (fun Qf hQf => ?_)
 refine wp_seq_k (fun K1 hK1 => ?_)
 refine wp_region_lit ?_
 refine wpp fun K_ h_ => ?_; go_simp; refine h_ _ _ ?_; clear h_ K_
 refine wpList_nil ?_
 (try simp only [Exit.then, Exit.inBlock, ↓reduceIte, Nat.reduceEqDiff])
 refine hK1 _ _ ?_
 refine wp_seq_k (fun K2 hK2 => ?_)
 refine wp_region_lit ?_
 refine wpp fun K_ h_ => ?_; go_simp; refine h_ _ _ ?_; clear h_ K_
 refine wpp fun K_ h_ => ?_; go_simp; refine h_ _ _ ?_; clear h_ K_
 refine wpp fun K_ h_ => ?_; go_simp; refine h_ _ _ ?_; clear h_ K_
 refine wpp fun K_ h_ => ?_; go_simp; refine h_ _ _ ?_; clear h_ K_
 refine wpp fun K_ h_ => ?_; go_simp; refine h_ _ _ ?_; clear h_ K_
 refine wpp fun K_ h_ => ?_; go_simp; refine h_ _ _ ?_; clear h_ K_
 refine step_new (cs := [.slice a0_A a0.length a0_c, .int .i64 0, .int .u64 (IntKind.u64.wrap (13701 + (IntKind.u64.wrap ((a0.length : Int)))))]) (T := 158) (f := fun b => .pointer (some ⟨b, 0, none⟩)) rfl (by go_simp <;> rfl) ?_
 intro b3 w4 hu lb hb3
 simp only [Act.put, nm1, nm2, nm3, i64_w]
 have lbb3 := Aside0.mk lb
 have ltb3 := Aside0.mk hb3.lt
 clear lb
 have hu5 := Aside0.mk hu
 clear hu
 refine wpp fun K_ h_ => ?_; go_simp; refine h_ _ _ ?_; clear h_ K_
 refine wpList_nil ?_
 (try simp only [Exit.then, Exit.inBlock, ↓reduceIte, Nat.reduceEqDiff])
 refine hK2 _ _ ?_
 refine wp_seq_k (fun K6 hK6 => ?_)
 refine wp_seq_k (fun K7 hK7 => ?_)
 refine wp_region_lit ?_
 refine wpp fun K_ h_ => ?_; go_simp; refine h_ _ _ ?_; clear h_ K_
 refine wpList_nil ?_
 (try simp only [Exit.then, Exit.inBlock, ↓reduceIte, Nat.reduceEqDiff])
 refine hK7 _ _ ?_
 refine wp_block ?_
 have HL14 := Aside0.mk H
 clear H
 go_loopg [4] K (fun kq v4 w' => ∃ (x8 : Int) (x9 : Int) (x10 : Int), v4 = .int .i64 x8 ∧ Aside0 (spec_l01From.l0 K a0 kq x8 x9 x10 = some (r0, r1)) ∧ Aside0 (kq ≤ K) ∧ Aside0 (Up w w') ∧ Aside0 (w4.heap.size ≤ w'.heap.size) ∧ Blk w' b3 [.slice a0_A a0.length a0_c, .int .i64 x9, .int .u64 x10] 158)
 case atStart => exact ⟨0, 0, IntKind.u64.wrap (13701 + (IntKind.u64.wrap ((a0.length : Int)))), (by first | rfl | simp), HL14, ⟨Nat.le_refl _⟩, ⟨hu5.out⟩, ⟨Nat.le_refl _⟩, hb3⟩
 case round =>
  rename_i J19 K20 hJ19 hK20
  obtain ⟨x8, x9, x10, rfl, HL18, hk17, hu12, hz13, h15⟩ := hrel
  obtain ⟨w11, rfl⟩ : ∃ wo : World, wo = wr := ⟨_, rfl⟩
  obtain ⟨k16, rfl⟩ | rfl : (∃ k, gk = k + 1) ∨ gk = 0 := by rcases gk with _ | k; exact .inr rfl; exact .inl ⟨k, rfl⟩
  case inr => exact absurd HL18.out (by simp [spec_l01From.l0])
  have H := HL18.out
  clear HL18
  rw [spec_l01From.l0] at H
  refine wp_seq_k (fun K21 hK21 => ?_)
  refine wp_seq_k (fun K22 hK22 => ?_)
  refine wp_region_lit ?_
  refine wpp fun K_ h_ => ?_; go_simp; refine h_ _ _ ?_; clear h_ K_
  refine wpp fun K_ h_ => ?_; go_simp; refine h_ _ _ ?_; clear h_ K_
  refine wpp fun K_ h_ => ?_; go_simp; refine h_ _ _ ?_; clear h_ K_
  refine wpp fun K_ h_ => ?_; go_simp; refine h_ _ _ ?_; clear h_ K_
  refine wpp fun K_ h_ => ?_; go_simp; refine h_ _ _ ?_; clear h_ K_
  by_cases c23 : (decide (x8 < (a0.length : Int))) = true
  rotate_left
  ·
   rw [if_neg c23] at H; replace c23 := Bool.eq_false_iff.mpr c23
   simp only [Option.some.injEq, Prod.mk.injEq] at H
   obtain ⟨rfl, rfl⟩ := H
   try simp only [c23, Bool.not_true, Bool.not_false]
   refine step_no rfl ?_
   simp only [Act.put, nm1, nm2, nm3, i64_w]
   refine step_no rfl ?_
   simp only [Act.put, nm1, nm2, nm3, i64_w]
   refine wpp fun K_ h_ => ?_; go_simp; refine h_ _ _ ?_; clear h_ K_
   refine wpList_nil ?_
   (try simp only [Exit.then, Exit.inBlock, ↓reduceIte, Nat.reduceEqDiff])
   refine hK22 _ _ ?_
   refine wp_cond_false rfl ?_
   refine wp_exit ?_
   (try simp only [Exit.then, Exit.inBlock, ↓reduceIte, Nat.reduceEqDiff])
   refine hK6 _ _ ?_
   refine wp_seq_k (fun K39 hK39 => ?_)
   refine wp_region_lit ?_
   refine wpp fun K_ h_ => ?_; go_simp; refine h_ _ _ ?_; clear h_ K_
   refine wpp fun K_ h_ => ?_; go_simp; refine h_ _ _ ?_; clear h_ K_
   refine wpList_nil ?_
   (try simp only [Exit.then, Exit.inBlock, ↓reduceIte, Nat.reduceEqDiff])
   refine hK39 _ _ ?_
   refine wp_ret ?_
   (try simp only [Exit.then, Exit.inBlock, ↓reduceIte, Nat.reduceEqDiff])
   refine hQf _ _ _ ?_
   exact bodyPost_ret (v := .pointer (some ⟨b3, 0, none⟩)) (by first | rfl | (simp [results, Try.results105, go_sem]; done) | (simp [results, Try.results105, go_sem]; rfl)) rfl ⟨b3, rfl, h15, ⟨lbb3.out⟩, hu12.out⟩
  rw [if_pos c23] at H
  try simp only [c23, Bool.not_true, Bool.not_false]
  refine wpList_step fun K_ h_ => ?_; go_simp; refine h_ _ _ ?_; clear h_ K_
  refine wpList_step fun K_ h_ => ?_; go_simp; refine h_ _ _ ?_; clear h_ K_
  refine wpp fun K_ h_ => ?_; go_simp; refine h_ _ _ ?_; clear h_ K_
  refine wpList_nil ?_
  (try simp only [Exit.then, Exit.inBlock, ↓reduceIte, Nat.reduceEqDiff])
  refine hK22 _ _ ?_
  by_cases c24 : (decide (x8 < 4096)) = true
  rotate_left
  ·
   rw [if_neg c24] at H; replace c24 := Bool.eq_false_iff.mpr c24
   simp only [Option.some.injEq, Prod.mk.injEq] at H
   obtain ⟨rfl, rfl⟩ := H
   try simp only [c24, Bool.not_true, Bool.not_false]
   refine wp_cond_false rfl ?_
   refine wp_exit ?_
   (try simp only [Exit.then, Exit.inBlock, ↓reduceIte, Nat.reduceEqDiff])
   refine hK6 _ _ ?_
   refine wp_seq_k (fun K38 hK38 => ?_)
   refine wp_region_lit ?_
   refine wpp fun K_ h_ => ?_; go_simp; refine h_ _ _ ?_; clear h_ K_
   refine wpp fun K_ h_ => ?_; go_simp; refine h_ _ _ ?_; clear h_ K_
   refine wpList_nil ?_
   (try simp only [Exit.then, Exit.inBlock, ↓reduceIte, Nat.reduceEqDiff])
   refine hK38 _ _ ?_
   refine wp_ret ?_
   (try simp only [Exit.then, Exit.inBlock, ↓reduceIte, Nat.reduceEqDiff])
   refine hQf _ _ _ ?_
   exact bodyPost_ret (v := .pointer (some ⟨b3, 0, none⟩)) (by first | rfl | (simp [results, Try.results105, go_sem]; done) | (simp [results, Try.results105, go_sem]; rfl)) rfl ⟨b3, rfl, h15, ⟨lbb3.out⟩, hu12.out⟩
  rw [if_pos c24] at H
  replace H := Option.bind_eq_some_iff.mp H
  obtain ⟨t26, A27, H⟩ := H
  replace A27 := Aside0.mk A27
  try dsimp only at H
  have HL37 := Aside0.mk H
  clear H
  try simp only [c24, Bool.not_true, Bool.not_false]
  refine wp_cond_true rfl ?_
  refine wp_skip ?_
  (try simp only [Exit.then, Exit.inBlock, ↓reduceIte, Nat.reduceEqDiff])
  refine hK21 _ _ ?_
  refine wp_seq_k (fun K25 hK25 => ?_)
  refine wp_block ?_
  obtain ⟨ad28, hat, he⟩ := rd_at (ha0.up hu12.out) A27.out
  have he29 := Aside0.mk he
  have hat31 := Aside0.mk hat
  clear he hat
  refine' wp_region_up 15 [Slot.det _, Slot.det _, Slot.det _, Slot.det _, Slot.det _, Slot.det _, Slot.det _, Slot.det _, Slot.det (.pointer (some ad28)), Slot.det _, Slot.det _, Slot.det _, Slot.det _, Slot.det _, Slot.det _] (by kernel_rfl) (by kernel_rfl) ?main
  case main =>
   simp only [List.take_succ_cons, List.take_zero]
   refine wpK_ops rfl (fun w1 hu => ?_) ?_
   · clear hu
     go_simp
     first | done | rfl
   simp only [Act.put, nm1, nm2, nm3, i64_w]
   refine wpK_ops rfl (fun w1 hu => ?_) ?_
   · clear hu
     go_simp
     first | done | rfl
   simp only [Act.put, nm1, nm2, nm3, i64_w]
   refine wpK_ops rfl (fun w1 hu => ?_) ?_
   · clear hu
     go_simp
     first | done | rfl
   simp only [Act.put, nm1, nm2, nm3, i64_w]
   refine wpK_ops rfl (fun w1 hu => ?_) ?_
   · clear hu
     go_simp
     first | done | rfl
   simp only [Act.put, nm1, nm2, nm3, i64_w]
   refine wpK_ops rfl (fun w1 hu => ?_) ?_
   · have cl0 := (h15.up ((Up.refl _).drew.trans hu)).cell (o := 2) rfl
     go_simp
     first | done | rfl
   simp only [Act.put, nm1, nm2, nm3, i64_w]
   refine wpK_ops rfl (fun w1 hu => ?_) ?_
   · clear hu
     go_simp
     first | done | rfl
   simp only [Act.put, nm1, nm2, nm3, i64_w]
   refine wpK_ops rfl (fun w1 hu => ?_) ?_
   · clear hu
     go_simp
     first | done | rfl
   simp only [Act.put, nm1, nm2, nm3, i64_w]
   refine wpK_ops rfl (fun w1 hu => ?_) ?_
   · clear hu
     go_simp
     first | done | rfl
   simp only [Act.put, nm1, nm2, nm3, i64_w]
   refine wpK_ops rfl (fun w1 hu => ?_) ?_
   · exact quiet_index eU8 (T := 5) rfl (by kernel_rfl) (by kernel_rfl) rfl rfl rfl hat31.out A27.out
   simp only [Act.put, nm1, nm2, nm3, i64_w]
   refine wpK_ops rfl (fun w1 hu => ?_) ?_
   · have cl0 := he29.out 0 _ rfl
     rw [addr_add0] at cl0
     replace cl0 := (((Up.refl _).drew.trans hu)).kept cl0
     go_simp
     first | done | rfl
   simp only [Act.put, nm1, nm2, nm3, i64_w]
   refine wpK_ops rfl (fun w1 hu => ?_) ?_
   · clear hu
     go_simp
     first | done | rfl
   simp only [Act.put, nm1, nm2, nm3, i64_w]
   refine wpK_ops rfl (fun w1 hu => ?_) ?_
   · clear hu
     go_simp
     first | done | rfl
   simp only [Act.put, nm1, nm2, nm3, i64_w]
   refine wpK_ops rfl (fun w1 hu => ?_) ?_
   · clear hu
     go_simp
     first | done | rfl
   simp only [Act.put, nm1, nm2, nm3, i64_w]
   refine wpK_ops rfl (fun w1 hu => ?_) ?_
   · clear hu
     go_simp
     first | done | rfl
   simp only [Act.put, nm1, nm2, nm3, i64_w]
   refine wpK_ops rfl (fun w1 hu => ?_) ?_
   · clear hu
     go_simp
     first | done | rfl
   simp only [Act.put, nm1, nm2, nm3, i64_w]
   refine wpK_nil ?_
   intro w32 hu hap
   simp only [List.drop_succ_cons, List.drop_zero]
   replace hu := (Up.refl _).drew.trans hu
   clear hap
   have hu33 := Aside0.mk hu
   clear hu
   have hB0 := (h15.up hu33.out)
   have cl0 := hB0.cell (o := 2) rfl
   have fr0 := hB0.free 2
   refine step_store (b := b3) (cs' := [.slice a0_A a0.length a0_c, .int .i64 x9, .int .u64 (IntKind.u64.wrap ((IntKind.u64.wrap ((IntKind.u64.wrap (x10 * 1099511628211)) + (IntKind.u64.wrap (t26)))) + 199))]) (T := 158) (W' := (w32.setCell ⟨b3, 2, none⟩ (.int .u64 (IntKind.u64.wrap ((IntKind.u64.wrap ((IntKind.u64.wrap (x10 * 1099511628211)) + (IntKind.u64.wrap (t26)))) + 199))))) rfl rfl (by go_simp <;> rfl) ((Sto.refl _ _).setCell 2 _) ((hB0).setCell 2 _) ?_
   clear hB0 cl0 fr0
   intro w34 hs hb36
   have hs35 := Aside0.mk hs
   clear hs
   refine wpList_nil ?_
   (try simp only [Exit.then, Exit.inBlock, ↓reduceIte, Nat.reduceEqDiff])
   refine hK25 _ _ ?_
   refine wp_region_lit ?_
   refine wpp fun K_ h_ => ?_; go_simp; refine h_ _ _ ?_; clear h_ K_
   refine wpp fun K_ h_ => ?_; go_simp; refine h_ _ _ ?_; clear h_ K_
   refine wpp fun K_ h_ => ?_; go_simp; refine h_ _ _ ?_; clear h_ K_
   refine wpList_nil ?_
   (try simp only [Exit.then, Exit.inBlock, ↓reduceIte, Nat.reduceEqDiff])
   refine hK20 _ _ ?_
   go_roundg k16
   case measure => exact Nat.lt_succ_self _
   case rel => exact ⟨wrap64 (x8 + 1), x9, IntKind.u64.wrap ((IntKind.u64.wrap ((IntKind.u64.wrap (x10 * 1099511628211)) + (IntKind.u64.wrap (t26)))) + 199), (by first | rfl | simp), HL37, ⟨by have := hk17.out; omega⟩, ⟨((hu12.out.trans hu33.out).sto (Nat.le_trans (Nat.le_refl _) lbb3.out) hs35.out)⟩, ⟨(Nat.le_trans ((Nat.le_trans ((Nat.le_trans (Nat.le_refl _) hz13.out)) hu33.out.size)) (Nat.le_of_eq hs35.out.size.symm))⟩, hb36⟩

set_option maxHeartbeats 40000000 in
set_option maxRecDepth 100000 in
theorem spec_l01Next.calls (K : Nat) (ba0 : Nat) (a0_0_A : Option Addr) (a0_0_c : Nat) (a0_0 : List (Int)) (a0_1 : Int) (a0_2 : Int) (a1 : Int) (r0 : Int) (r1 : Int) (r2 : Int) (w : World) (ha0 : Blk w ba0 [.slice a0_0_A a0_0.length a0_0_c, .int .i64 a0_1, .int .u64 a0_2] 158) (ha0_0 : Rd eU8 w a0_0_A a0_0) (haa0_0 : ∀ k, blk (.slice a0_0_A a0_0.length a0_0_c) = some k → 0 < a0_0.length → k ≠ ba0) (h : spec_l01Next.f K a0_0 a0_1 a0_2 a1 = some (r0, r1, r2)) :
    Calls Try.prog 160 #[.pointer (some ⟨ba0, 0, none⟩), .int .i64 a1] w fun e w' => e = .returned (.int .i64 r0) ∧ Blk w' ba0 [.slice a0_0_A a0_0.length a0_0_c, .int .i64 r1, .int .u64 r2] 158 ∧ Grow (.pointer (some ⟨ba0, 0, none⟩)) w w' := by
 have H : ((if decide (a1 < 1) = true then some (0, a0_1, a0_2) else (if decide (a0_1 < (a0_0.length : Int)) = true then ((idx a0_0 a0_1).bind fun t18 => (if (a1 == 0) = true then none else some (Int.tmod (wrap64 ((wrap64 (bits .and .u64 ((IntKind.u64.wrap ((IntKind.u64.wrap (a0_2 * 6364136223846793005)) + 1442695040888963407)) / 8589934592) 16777215)) + (wrap64 (t18)))) a1, wrap64 (a0_1 + 1), IntKind.u64.wrap ((IntKind.u64.wrap (a0_2 * 6364136223846793005)) + 1442695040888963407)))) else (if (a1 == 0) = true then none else some (Int.tmod (wrap64 (bits .and .u64 ((IntKind.u64.wrap ((IntKind.u64.wrap (a0_2 * 6364136223846793005)) + 1442695040888963407)) / 8589934592) 16777215)) a1, a0_1, IntKind.u64.wrap ((IntKind.u64.wrap (a0_2 * 6364136223846793005)) + 1442695040888963407))))) : Option (Int × Int × Int)) = some (r0, r1, r2) := h
 clear h
 have ltba0 := Aside0.mk ha0.lt
 go_enter Try.func160, Try.ntmps160
 refine wp_hide (fun Qf hQf => ?_)
 refine wp_seq_k (fun K1 hK1 => ?_)
 refine wp_region_lit ?_
 refine wpp fun K_ h_ => ?_; go_simp; refine h_ _ _ ?_; clear h_ K_
 refine wpList_nil ?_
 (try simp only [Exit.then, Exit.inBlock, ↓reduceIte, Nat.reduceEqDiff])
 refine hK1 _ _ ?_
 refine wp_seq_k (fun K2 hK2 => ?_)
 refine wp_seq_k (fun K3 hK3 => ?_)
 refine wp_region_lit ?_
 refine wpp fun K_ h_ => ?_; go_simp; refine h_ _ _ ?_; clear h_ K_
 refine wpp fun K_ h_ => ?_; go_simp; refine h_ _ _ ?_; clear h_ K_
 refine wpList_nil ?_
 (try simp only [Exit.then, Exit.inBlock, ↓reduceIte, Nat.reduceEqDiff])
 refine hK3 _ _ ?_
 by_cases c4 : (decide (a1 < 1)) = true
 ·
  rw [if_pos c4] at H
  simp only [Option.some.injEq, Prod.mk.injEq] at H
  obtain ⟨rfl, rfl, rfl⟩ := H
  try simp only [c4, Bool.not_true, Bool.not_false]
  refine wp_cond_true rfl ?_
  refine wp_seq_k (fun K5 hK5 => ?_)
  refine wp_region_lit ?_
  refine wpp fun K_ h_ => ?_; go_simp; refine h_ _ _ ?_; clear h_ K_
  refine wpList_nil ?_
  (try simp only [Exit.then, Exit.inBlock, ↓reduceIte, Nat.reduceEqDiff])
  refine hK5 _ _ ?_
  refine wp_ret ?_
  (try simp only [Exit.then, Exit.inBlock, ↓reduceIte, Nat.reduceEqDiff])
  refine hQf _ _ _ ?_
  exact bodyPost_ret (v := .int .i64 0) (by first | rfl | (simp [results, Try.results160, go_sem]; done) | (simp [results, Try.results160, go_sem]; rfl)) rfl ⟨rfl, ha0, (Grow.refl (.pointer (some ⟨ba0, 0, none⟩)) _)⟩
 rw [if_neg c4] at H; replace c4 := Bool.eq_false_iff.mpr c4
 try simp only [c4, Bool.not_true, Bool.not_false]
 refine wp_cond_false rfl ?_
 refine wp_skip ?_
 (try simp only [Exit.then, Exit.inBlock, ↓reduceIte, Nat.reduceEqDiff])
 refine hK2 _ _ ?_
 refine wp_seq_k (fun K6 hK6 => ?_)
 refine wp_region_lit ?_
 refine wpp fun K_ h_ => ?_; go_simp; refine h_ _ _ ?_; clear h_ K_
 refine wpp fun K_ h_ => ?_; go_simp; refine h_ _ _ ?_; clear h_ K_
 refine wpp fun K_ h_ => ?_; go_simp; refine h_ _ _ ?_; clear h_ K_
 refine wpp fun K_ h_ => ?_; go_simp; refine h_ _ _ ?_; clear h_ K_
 have cl0 := ha0.cell (o := 2) rfl
 refine wpp fun K_ h_ => ?_; go_simp; refine h_ _ _ ?_; clear h_ K_
 clear cl0
 refine wpp fun K_ h_ => ?_; go_simp; refine h_ _ _ ?_; clear h_ K_
 refine wpp fun K_ h_ => ?_; go_simp; refine h_ _ _ ?_; clear h_ K_
 refine wpp fun K_ h_ => ?_; go_simp; refine h_ _ _ ?_; clear h_ K_
 refine wpp fun K_ h_ => ?_; go_simp; refine h_ _ _ ?_; clear h_ K_
 have hB0 := ha0
 have cl0 := hB0.cell (o := 2) rfl
 have fr0 := hB0.free 2
 refine step_store (b := ba0) (cs' := [.slice a0_0_A a0_0.length a0_0_c, .int .i64 a0_1, .int .u64 (IntKind.u64.wrap ((IntKind.u64.wrap (a0_2 * 6364136223846793005)) + 1442695040888963407))]) (T := 158) (W' := (w.setCell ⟨ba0, 2, none⟩ (.int .u64 (IntKind.u64.wrap ((IntKind.u64.wrap (a0_2 * 6364136223846793005)) + 1442695040888963407))))) rfl rfl (by go_simp <;> rfl) ((Sto.refl _ _).setCell 2 _) ((hB0).setCell 2 _) ?_
 clear hB0 cl0 fr0
 intro w7 hs hb9
 have hs8 := Aside0.mk hs
 clear hs
 have h10 := ha0_0.sto hs8.out haa0_0
 refine wpList_nil ?_
 (try simp only [Exit.then, Exit.inBlock, ↓reduceIte, Nat.reduceEqDiff])
 refine hK6 _ _ ?_
 refine wp_seq_k (fun K11 hK11 => ?_)
 refine wp_region_lit ?_
 refine wpp fun K_ h_ => ?_; go_simp; refine h_ _ _ ?_; clear h_ K_
 refine wpp fun K_ h_ => ?_; go_simp; refine h_ _ _ ?_; clear h_ K_
 refine wpp fun K_ h_ => ?_; go_simp; refine h_ _ _ ?_; clear h_ K_
 have cl0 := hb9.cell (o := 2) rfl
 refine wpp fun K_ h_ => ?_; go_simp; refine h_ _ _ ?_; clear h_ K_
 clear cl0
 refine wpp fun K_ h_ => ?_; go_simp; refine h_ _ _ ?_; clear h_ K_
 refine wpp fun K_ h_ => ?_; go_simp; refine h_ _ _ ?_; clear h_ K_
 refine wpp fun K_ h_ => ?_; go_simp; refine h_ _ _ ?_; clear h_ K_
 refine wpp fun K_ h_ => ?_; go_simp; refine h_ _ _ ?_; clear h_ K_
 refine wpList_nil ?_
 (try simp only [Exit.then, Exit.inBlock, ↓reduceIte, Nat.reduceEqDiff])
 refine hK11 _ _ ?_
 refine wp_seq_k (fun K12 hK12 => ?_)
 refine wp_seq_k (fun K13 hK13 => ?_)
 refine' wp_region_up 10 [Slot.det _, Slot.det _, Slot.det _, Slot.det _, Slot.det _, Slot.det _, Slot.det _, Slot.det _, Slot.det _, Slot.det _] (by kernel_rfl) (by kernel_rfl) ?main
 case main =>
  simp only [List.take_succ_cons, List.take_zero]
  refine wpK_ops rfl (fun w1 hu => ?_) ?_
  · clear hu
    go_simp
    first | done | rfl
  simp only [Act.put, nm1, nm2, nm3, i64_w]
  refine wpK_ops rfl (fun w1 hu => ?_) ?_
  · clear hu
    go_simp
    first | done | rfl
  simp only [Act.put, nm1, nm2, nm3, i64_w]
  refine wpK_ops rfl (fun w1 hu => ?_) ?_
  · clear hu
    go_simp
    first | done | rfl
  simp only [Act.put, nm1, nm2, nm3, i64_w]
  refine wpK_ops rfl (fun w1 hu => ?_) ?_
  · have cl0 := (hb9.up ((Up.refl _).drew.trans hu)).cell (o := 1) rfl
    go_simp
    first | done | rfl
  simp only [Act.put, nm1, nm2, nm3, i64_w]
  refine wpK_ops rfl (fun w1 hu => ?_) ?_
  · clear hu
    go_simp
    first | done | rfl
  simp only [Act.put, nm1, nm2, nm3, i64_w]
  refine wpK_ops rfl (fun w1 hu => ?_) ?_
  · clear hu
    go_simp
    first | done | rfl
  simp only [Act.put, nm1, nm2, nm3, i64_w]
  refine wpK_ops rfl (fun w1 hu => ?_) ?_
  · clear hu
    go_simp
    first | done | rfl
  simp only [Act.put, nm1, nm2, nm3, i64_w]
  refine wpK_ops rfl (fun w1 hu => ?_) ?_
  · have cl0 := (hb9.up ((Up.refl _).drew.trans hu)).cell (o := 0) rfl
    go_simp
    first | done | rfl
  simp only [Act.put, nm1, nm2, nm3, i64_w]
  refine wpK_ops rfl (fun w1 hu => ?_) ?_
  · clear hu
    go_simp
    first | done | rfl
  simp only [Act.put, nm1, nm2, nm3, i64_w]
  refine wpK_ops rfl (fun w1 hu => ?_) ?_
  · clear hu
    go_simp
    first | done | rfl
  simp only [Act.put, nm1, nm2, nm3, i64_w]
  refine wpK_nil ?_
  intro w14 hu hap
  simp only [List.drop_succ_cons, List.drop_zero]
  replace hu := (Up.refl _).drew.trans hu
  clear hap
  have hu15 := Aside0.mk hu
  clear hu
  refine wpList_nil ?_
  (try simp only [Exit.then, Exit.inBlock, ↓reduceIte, Nat.reduceEqDiff])
  refine hK13 _ _ ?_
  by_cases c16 : (decide (a0_1 < (a0_0.length : Int))) = true
  rotate_left
  ·
   rw [if_neg c16] at H; replace c16 := Bool.eq_false_iff.mpr c16
   try simp only [c16, Bool.not_true, Bool.not_false]
   refine wp_cond_false rfl ?_
   refine wp_skip ?_
   (try simp only [Exit.then, Exit.inBlock, ↓reduceIte, Nat.reduceEqDiff])
   refine hK12 _ _ ?_
   refine wp_seq_k (fun K33 hK33 => ?_)
   refine wp_region_lit ?_
   refine wpp fun K_ h_ => ?_; go_simp; refine h_ _ _ ?_; clear h_ K_
   refine wpp fun K_ h_ => ?_; go_simp; refine h_ _ _ ?_; clear h_ K_
   by_cases c34 : (a1 == 0) = true
   ·
    rw [if_pos c34] at H
    have c34n : (a1 != 0) = false := by rw [bne, c34]; rfl
    exact absurd H (by simp)
   rw [if_neg c34] at H; replace c34 := Bool.eq_false_iff.mpr c34
   have c34n : (a1 != 0) = true := by rw [bne, c34]; rfl
   have c34p : ¬ a1 = 0 := fun e => by simp [e] at c34
   simp only [Option.some.injEq, Prod.mk.injEq] at H
   obtain ⟨rfl, rfl, rfl⟩ := H
   try simp only [c34, c34n, Bool.not_true, Bool.not_false]
   refine wpp fun K_ h_ => ?_; go_simp; refine h_ _ _ ?_; clear h_ K_
   refine wpp fun K_ h_ => ?_; go_simp; refine h_ _ _ ?_; clear h_ K_
   refine wpList_nil ?_
   (try simp only [Exit.then, Exit.inBlock, ↓reduceIte, Nat.reduceEqDiff])
   refine hK33 _ _ ?_
   refine wp_ret ?_
   (try simp only [Exit.then, Exit.inBlock, ↓reduceIte, Nat.reduceEqDiff])
   refine hQf _ _ _ ?_
   exact bodyPost_ret (v := .int .i64 (Int.tmod (wrap64 (bits .and .u64 ((IntKind.u64.wrap ((IntKind.u64.wrap (a0_2 * 6364136223846793005)) + 1442695040888963407)) / 8589934592) 16777215)) a1)) (by first | rfl | (simp [results, Try.results160, go_sem]; done) | (simp [results, Try.results160, go_sem]; rfl)) rfl ⟨rfl, (hb9.up hu15.out), (((Grow.refl (.pointer (some ⟨ba0, 0, none⟩)) _).trans (Grow.of_sto hs8.out)).trans (Grow.up hu15.out))⟩
  rw [if_pos c16] at H
  replace H := Option.bind_eq_some_iff.mp H
  obtain ⟨t18, A19, H⟩ := H
  replace A19 := Aside0.mk A19
  try dsimp only at H
  try simp only [c16, Bool.not_true, Bool.not_false]
  refine wp_cond_true rfl ?_
  refine wp_seq_k (fun K17 hK17 => ?_)
  obtain ⟨ad20, hat, he⟩ := rd_at (h10.up hu15.out) A19.out
  have he21 := Aside0.mk he
  have hat23 := Aside0.mk hat
  clear he hat
  refine' wp_region_up 13 [Slot.det _, Slot.det _, Slot.det _, Slot.det _, Slot.det _, Slot.det _, Slot.det _, Slot.det _, Slot.det _, Slot.det (.pointer (some ad20)), Slot.det _, Slot.det _, Slot.det _] (by kernel_rfl) (by kernel_rfl) ?main
  case main =>
   simp only [List.take_succ_cons, List.take_zero]
   refine wpK_ops rfl (fun w1 hu => ?_) ?_
   · clear hu
     go_simp
     first | done | rfl
   simp only [Act.put, nm1, nm2, nm3, i64_w]
   refine wpK_ops rfl (fun w1 hu => ?_) ?_
   · clear hu
     go_simp
     first | done | rfl
   simp only [Act.put, nm1, nm2, nm3, i64_w]
   refine wpK_ops rfl (fun w1 hu => ?_) ?_
   · clear hu
     go_simp
     first | done | rfl
   simp only [Act.put, nm1, nm2, nm3, i64_w]
   refine wpK_ops rfl (fun w1 hu => ?_) ?_
   · clear hu
     go_simp
     first | done | rfl
   simp only [Act.put, nm1, nm2, nm3, i64_w]
   refine wpK_ops rfl (fun w1 hu => ?_) ?_
   · have cl0 := ((hb9.up hu15.out).up ((Up.refl _).drew.trans hu)).cell (o := 0) rfl
     go_simp
     first | done | rfl
   simp only [Act.put, nm1, nm2, nm3, i64_w]
   refine wpK_ops rfl (fun w1 hu => ?_) ?_
   · clear hu
     go_simp
     first | done | rfl
   simp only [Act.put, nm1, nm2, nm3, i64_w]
   refine wpK_ops rfl (fun w1 hu => ?_) ?_
   · clear hu
     go_simp
     first | done | rfl
   simp only [Act.put, nm1, nm2, nm3, i64_w]
   refine wpK_ops rfl (fun w1 hu => ?_) ?_
   · clear hu
     go_simp
     first | done | rfl
   simp only [Act.put, nm1, nm2, nm3, i64_w]
   refine wpK_ops rfl (fun w1 hu => ?_) ?_
   · have cl0 := ((hb9.up hu15.out).up ((Up.refl _).drew.trans hu)).cell (o := 1) rfl
     go_simp
     first | done | rfl
   simp only [Act.put, nm1, nm2, nm3, i64_w]
   refine wpK_ops rfl (fun w1 hu => ?_) ?_
   · exact quiet_index eU8 (T := 5) rfl (by kernel_rfl) (by kernel_rfl) rfl rfl rfl hat23.out A19.out
   simp only [Act.put, nm1, nm2, nm3, i64_w]
   refine wpK_ops rfl (fun w1 hu => ?_) ?_
   · have cl0 := he21.out 0 _ rfl
     rw [addr_add0] at cl0
     replace cl0 := (((Up.refl _).drew.trans hu)).kept cl0
     go_simp
     first | done | rfl
   simp only [Act.put, nm1, nm2, nm3, i64_w]
   refine wpK_ops rfl (fun w1 hu => ?_) ?_
   · clear hu
     go_simp
     first | done | rfl
   simp only [Act.put, nm1, nm2, nm3, i64_w]
   refine wpK_ops rfl (fun w1 hu => ?_) ?_
   · clear hu
     go_simp
     first | done | rfl
   simp only [Act.put, nm1, nm2, nm3, i64_w]
   refine wpK_nil ?_
   intro w24 hu hap
   simp only [List.drop_succ_cons, List.drop_zero]
   replace hu := (Up.refl _).drew.trans hu
   clear hap
   have hu25 := Aside0.mk hu
   clear hu
   refine wpp fun K_ h_ => ?_; go_simp; refine h_ _ _ ?_; clear h_ K_
   refine wpList_nil ?_
   (try simp only [Exit.then, Exit.inBlock, ↓reduceIte, Nat.reduceEqDiff])
   refine hK17 _ _ ?_
   refine wp_region_lit ?_
   refine wpp fun K_ h_ => ?_; go_simp; refine h_ _ _ ?_; clear h_ K_
   refine wpp fun K_ h_ => ?_; go_simp; refine h_ _ _ ?_; clear h_ K_
   refine wpp fun K_ h_ => ?_; go_simp; refine h_ _ _ ?_; clear h_ K_
   refine wpp fun K_ h_ => ?_; go_simp; refine h_ _ _ ?_; clear h_ K_
   have cl0 := (hb9.up (hu15.out.trans hu25.out)).cell (o := 1) rfl
   refine wpp fun K_ h_ => ?_; go_simp; refine h_ _ _ ?_; clear h_ K_
   clear cl0
   refine wpp fun K_ h_ => ?_; go_simp; refine h_ _ _ ?_; clear h_ K_
   refine wpp fun K_ h_ => ?_; go_simp; refine h_ _ _ ?_; clear h_ K_
   refine wpp fun K_ h_ => ?_; go_simp; refine h_ _ _ ?_; clear h_ K_
   have hB0 := (hb9.up (hu15.out.trans hu25.out))
   have cl0 := hB0.cell (o := 1) rfl
   have fr0 := hB0.free 1
   refine step_store (b := ba0) (cs' := [.slice a0_0_A a0_0.length a0_0_c, .int .i64 (wrap64 (a0_1 + 1)), .int .u64 (IntKind.u64.wrap ((IntKind.u64.wrap (a0_2 * 6364136223846793005)) + 1442695040888963407))]) (T := 158) (W' := (w24.setCell ⟨ba0, 1, none⟩ (.int .i64 (wrap64 (a0_1 + 1))))) rfl rfl (by go_simp <;> rfl) ((Sto.refl _ _).setCell 1 _) ((hB0).setCell 1 _) ?_
   clear hB0 cl0 fr0
   intro w26 hs hb28
   have hs27 := Aside0.mk hs
   clear hs
   have h29 := (h10.up (hu15.out.trans hu25.out)).sto hs27.out haa0_0
   refine wpList_nil ?_
   (try simp only [Exit.then, Exit.inBlock, ↓reduceIte, Nat.reduceEqDiff])
   refine hK12 _ _ ?_
   refine wp_seq_k (fun K30 hK30 => ?_)
   refine wp_region_lit ?_
   refine wpp fun K_ h_ => ?_; go_simp; refine h_ _ _ ?_; clear h_ K_
   refine wpp fun K_ h_ => ?_; go_simp; refine h_ _ _ ?_; clear h_ K_
   have hm32 := Aside0.mk (Nat.le_trans ((Nat.le_trans ((Nat.le_trans ((Nat.le_of_eq hs8.out.size.symm)) hu15.out.size)) hu25.out.size)) (Nat.le_of_eq hs27.out.size.symm))
   by_cases c31 : (a1 == 0) = true
   ·
    rw [if_pos c31] at H
    have c31n : (a1 != 0) = false := by rw [bne, c31]; rfl
    exact absurd H (by simp)
   rw [if_neg c31] at H; replace c31 := Bool.eq_false_iff.mpr c31
   have c31n : (a1 != 0) = true := by rw [bne, c31]; rfl
   have c31p : ¬ a1 = 0 := fun e => by simp [e] at c31
   simp only [Option.some.injEq, Prod.mk.injEq] at H
   obtain ⟨rfl, rfl, rfl⟩ := H
   try simp only [c31, c31n, Bool.not_true, Bool.not_false]
   refine wpp fun K_ h_ => ?_; go_simp; refine h_ _ _ ?_; clear h_ K_
   refine wpp fun K_ h_ => ?_; go_simp; refine h_ _ _ ?_; clear h_ K_
   refine wpList_nil ?_
   (try simp only [Exit.then, Exit.inBlock, ↓reduceIte, Nat.reduceEqDiff])
   refine hK30 _ _ ?_
   refine wp_ret ?_
   (try simp only [Exit.then, Exit.inBlock, ↓reduceIte, Nat.reduceEqDiff])
   refine hQf _ _ _ ?_
   exact bodyPost_ret (v := .int .i64 (Int.tmod (wrap64 ((wrap64 (bits .and .u64 ((IntKind.u64.wrap ((IntKind.u64.wrap (a0_2 * 6364136223846793005)) + 1442695040888963407)) / 8589934592) 16777215)) + (wrap64 (t18)))) a1)) (by first | rfl | (simp [results, Try.results160, go_sem]; done) | (simp [results, Try.results160, go_sem]; rfl)) rfl ⟨rfl, hb28, (((((Grow.refl (.pointer (some ⟨ba0, 0, none⟩)) _).trans (Grow.of_sto hs8.out)).trans (Grow.up hu15.out)).trans (Grow.up hu25.out)).trans (Grow.of_sto hs27.out))⟩

set_option maxHeartbeats 40000000 in
set_option maxRecDepth 100000 in
theorem spec_l01Pick.calls (K : Nat) (ba0 : Nat) (a0_0_A : Option Addr) (a0_0_c : Nat) (a0_0 : List (Int)) (a0_1 : Int) (a0_2 : Int) (a1_A : Option Addr) (a1_c : Nat) (a1 : List (Int)) (r0 : Int) (r1 : Int) (r2 : Int) (w : World) (ha0 : Blk w ba0 [.slice a0_0_A a0_0.length a0_0_c, .int .i64 a0_1, .int .u64 a0_2] 158) (ha0_0 : Rd eU8 w a0_0_A a0_0) (haa0_0 : ∀ k, blk (.slice a0_0_A a0_0.length a0_0_c) = some k → 0 < a0_0.length → k ≠ ba0) (ha1 : Rd eI w a1_A a1) (haa1 : ∀ k, blk (.slice a1_A a1.length a1_c) = some k → 0 < a1.length → k ≠ ba0) (h : spec_l01Pick.f K a0_0 a0_1 a0_2 a1 = some (r0, r1, r2)) :
    Calls Try.prog 179 #[.pointer (some ⟨ba0, 0, none⟩), .slice a1_A a1.length a1_c] w fun e w' => e = .returned (.int .i64 r0) ∧ Blk w' ba0 [.slice a0_0_A a0_0.length a0_0_c, .int .i64 r1, .int .u64 r2] 158 ∧ Grow (.pointer (some ⟨ba0, 0, none⟩)) w w' := by
 have H : (((spec_l01Next.f K a0_0 a0_1 a0_2 (a1.length : Int)).bind fun (t3, t4, t5) => ((idx a1 t3).bind fun t12 => some (t12, t4, t5))) : Option (Int × Int × Int)) = some (r0, r1, r2) := h
 clear h
 replace H := Option.bind_eq_some_iff.mp H
 obtain ⟨⟨t3, t4, t5⟩, A6, H⟩ := H
 replace A6 := Aside0.mk A6
 try dsimp only at H
 replace H := Option.bind_eq_some_iff.mp H
 obtain ⟨t12, A13, H⟩ := H
 replace A13 := Aside0.mk A13
 try dsimp only at H
 simp only [Option.some.injEq, Prod.mk.injEq] at H
 obtain ⟨rfl, rfl, rfl⟩ := H
 have ltba0 := Aside0.mk ha0.lt
 go_enter Try.func179, Try.ntmps179
 refine wp_hide (fun Qf hQf => ?_)
 refine wp_seq_k (fun K1 hK1 => ?_)
 refine wp_region_lit ?_
 refine wpp fun K_ h_ => ?_; go_simp; refine h_ _ _ ?_; clear h_ K_
 refine wpList_nil ?_
 (try simp only [Exit.then, Exit.inBlock, ↓reduceIte, Nat.reduceEqDiff])
 refine hK1 _ _ ?_
 refine wp_seq_k (fun K2 hK2 => ?_)
 refine wp_region_lit ?_
 refine wpp fun K_ h_ => ?_; go_simp; refine h_ _ _ ?_; clear h_ K_
 refine wpp fun K_ h_ => ?_; go_simp; refine h_ _ _ ?_; clear h_ K_
 refine wpp fun K_ h_ => ?_; go_simp; refine h_ _ _ ?_; clear h_ K_
 refine wpp fun K_ h_ => ?_; go_simp; refine h_ _ _ ?_; clear h_ K_
 refine step_call (wanted_none rfl) (by go_simp <;> rfl) (spec_l01Next.calls K ba0 a0_0_A a0_0_c a0_0 a0_1 a0_2 (a1.length : Int) t3 t4 t5 w ha0 ha0_0 haa0_0 A6.out) ?_
 rintro e w7 ⟨rfl, h8, hs⟩
 have hs9 := Aside0.mk hs
 clear hs
 have h10 := ha0_0.growp hs9.out haa0_0
 have h11 := ha1.growp hs9.out haa1
 refine ⟨_, rfl, ?_⟩
 simp only [Act.put, nm1, nm2, nm3, i64_w]
 refine step_index eI (T := 2) (wanted_none rfl) rfl (by kernel_rfl) (by kernel_rfl) rfl rfl rfl h11 A13.out ?_
 intro ad14 hat he
 have he15 := Aside0.mk he
 have hat16 := Aside0.mk hat
 clear he hat
 simp only [Act.put, nm1, nm2, nm3, i64_w]
 have cl0 := he15.out 0 _ rfl
 rw [addr_add0] at cl0
 refine wpp fun K_ h_ => ?_; go_simp; refine h_ _ _ ?_; clear h_ K_
 clear cl0
 refine wpp fun K_ h_ => ?_; go_simp; refine h_ _ _ ?_; clear h_ K_
 refine wpList_nil ?_
 (try simp only [Exit.then, Exit.inBlock, ↓reduceIte, Nat.reduceEqDiff])
 refine hK2 _ _ ?_
 refine wp_ret ?_
 (try simp only [Exit.then, Exit.inBlock, ↓reduceIte, Nat.reduceEqDiff])
 refine hQf _ _ _ ?_
 exact bodyPost_ret (v := .int .i64 t12) (by first | rfl | (simp [results, Try.results179, go_sem]; done) | (simp [results, Try.results179, go_sem]; rfl)) rfl ⟨rfl, h8, ((Grow.refl (.pointer (some ⟨ba0, 0, none⟩)) _).trans hs9.out)⟩

set_option maxHeartbeats 40000000 in
set_option maxRecDepth 100000 in
theorem spec_l01DrawField.calls (K : Nat) (ba0 : Nat) (a0_0_A : Option Addr) (a0_0_c : Nat) (a0_0 : List (Int)) (a0_1 : Int) (a0_2 : Int) (r0 : Int) (r1 : Int) (r2 : Int) (w : World) (ha0 : Blk w ba0 [.slice a0_0_A a0_0.length a0_0_c, .int .i64 a0_1, .int .u64 a0_2] 158) (ha0_0 : Rd eU8 w a0_0_A a0_0) (haa0_0 : ∀ k, blk (.slice a0_0_A a0_0.length a0_0_c) = some k → 0 < a0_0.length → k ≠ ba0) (h : spec_l01DrawField.f K a0_0 a0_1 a0_2 = some (r0, r1, r2)) :
    Calls Try.prog 106 #[.pointer (some ⟨ba0, 0, none⟩)] w fun e w' => e = .returned (.int .i64 r0) ∧ Blk w' ba0 [.slice a0_0_A a0_0.length a0_0_c, .int .i64 r1, .int .u64 r2] 158 ∧ Grow (.pointer (some ⟨ba0, 0, none⟩)) w w' := by
 have H : (((spec_l01Pick.f K a0_0 a0_1 a0_2 ([3, 5, 5, 7, 7, 11, 13, 13, 17, 19, 23, 29, 31])).bind fun (t6, t7, t8) => some (t6, t7, t8)) : Option (Int × Int × Int)) = some (r0, r1, r2) := h
 clear h
 replace H := Option.bind_eq_some_iff.mp H
 obtain ⟨⟨t6, t7, t8⟩, A9, H⟩ := H
 replace A9 := Aside0.mk A9
 try dsimp only at H
 simp only [Option.some.injEq, Prod.mk.injEq] at H
 obtain ⟨rfl, rfl, rfl⟩ := H
 have ltba0 := Aside0.mk ha0.lt
 go_enter Try.func106, Try.ntmps106
 refine wp_hide (fun Qf hQf => ?_)
 refine wp_seq_k (fun K1 hK1 => ?_)
 refine wp_region_lit ?_
 refine wpp fun K_ h_ => ?_; go_simp; refine h_ _ _ ?_; clear h_ K_
 refine wpList_nil ?_
 (try simp only [Exit.then, Exit.inBlock, ↓reduceIte, Nat.reduceEqDiff])
 refine hK1 _ _ ?_
 refine wp_seq_k (fun K2 hK2 => ?_)
 refine wp_region_lit ?_
 refine wpp fun K_ h_ => ?_; go_simp; refine h_ _ _ ?_; clear h_ K_
 refine step_new (cs := [.int .i64 3, .int .i64 5, .int .i64 5, .int .i64 7, .int .i64 7, .int .i64 11, .int .i64 13, .int .i64 13, .int .i64 17, .int .i64 19, .int .i64 23, .int .i64 29, .int .i64 31]) (T := 2) (f := fun b => .slice (some ⟨b, 0, none⟩) 13 13) rfl (by go_simp <;> rfl) ?_
 intro b3 w4 hu lb hb3
 simp only [Act.put, nm1, nm2, nm3, i64_w]
 have lbb3 := Aside0.mk lb
 have ltb3 := Aside0.mk hb3.lt
 clear lb
 have hu5 := Aside0.mk hu
 clear hu
 refine step_call (wanted_none rfl) (by go_simp <;> rfl) (spec_l01Pick.calls K ba0 a0_0_A a0_0_c a0_0 a0_1 a0_2 (some ⟨b3, 0, none⟩) 13 ([3, 5, 5, 7, 7, 11, 13, 13, 17, 19, 23, 29, 31]) t6 t7 t8 w4 (ha0.up hu5.out) (ha0_0.up hu5.out) haa0_0 (Rd.of_blk (E := eI) (xs := [3, 5, 5, 7, 7, 11, 13, 13, 17, 19, 23, 29, 31]) (o := 0) hb3 (by simp) (fun j u hu => by rcases j with j <;> simp_all [Enc.flat, eI])) (fun k hk hp e => (Ne.symm (Nat.ne_of_lt (Nat.lt_of_lt_of_le ltba0.out lbb3.out))) ((Option.some.inj hk).trans e)) A9.out) ?_
 rintro e w10 ⟨rfl, h11, hs⟩
 have hs12 := Aside0.mk hs
 clear hs
 have h13 := (ha0_0.up hu5.out).growp hs12.out haa0_0
 have h14 := hb3.grow hs12.out (fun k hk e => (Nat.ne_of_lt (Nat.lt_of_lt_of_le ltba0.out lbb3.out)) ((Option.some.inj hk).trans e))
 refine ⟨_, rfl, ?_⟩
 simp only [Act.put, nm1, nm2, nm3, i64_w]
 refine wpp fun K_ h_ => ?_; go_simp; refine h_ _ _ ?_; clear h_ K_
 refine wpList_nil ?_
 (try simp only [Exit.then, Exit.inBlock, ↓reduceIte, Nat.reduceEqDiff])
 refine hK2 _ _ ?_
 refine wp_ret ?_
 (try simp only [Exit.then, Exit.inBlock, ↓reduceIte, Nat.reduceEqDiff])
 refine hQf _ _ _ ?_
 exact bodyPost_ret (v := .int .i64 t6) (by first | rfl | (simp [results, Try.results106, go_sem]; done) | (simp [results, Try.results106, go_sem]; rfl)) rfl ⟨rfl, h11, (((Grow.refl (.pointer (some ⟨ba0, 0, none⟩)) _).trans (Grow.up hu5.out)).trans hs12.out)⟩

set_option maxHeartbeats 40000000 in
set_option maxRecDepth 100000 in
theorem spec_l01DrawPoint.calls (K : Nat) (ba0 : Nat) (a0_0_A : Option Addr) (a0_0_c : Nat) (a0_0 : List (Int)) (a0_1 : Int) (a0_2 : Int) (a1 : Int) (r0 : Int) (r1 : Int) (r2 : Int) (r3 : Int) (w : World) (ha0 : Blk w ba0 [.slice a0_0_A a0_0.length a0_0_c, .int .i64 a0_1, .int .u64 a0_2] 158) (ha0_0 : Rd eU8 w a0_0_A a0_0) (haa0_0 : ∀ k, blk (.slice a0_0_A a0_0.length a0_0_c) = some k → 0 < a0_0.length → k ≠ ba0) (h : spec_l01DrawPoint.f K a0_0 a0_1 a0_2 a1 = some (r0, r1, r2, r3)) :
    Calls Try.prog 159 #[.pointer (some ⟨ba0, 0, none⟩), .int .i64 a1] w fun e w' => e = .returned (.agg #[.int .i64 r0, .int .i64 r1]) ∧ Blk w' ba0 [.slice a0_0_A a0_0.length a0_0_c, .int .i64 r2, .int .u64 r3] 158 ∧ Grow (.pointer (some ⟨ba0, 0, none⟩)) w w' := by
 have H : (((spec_l01Next.f K a0_0 a0_1 a0_2 4).bind fun (t7, t8, t9) => (if (t7 == 0) = true then ((spec_l01Next.f K a0_0 t8 t9 3).bind fun (t18, t19, t20) => ((spec_l01Next.f K a0_0 t19 t20 3).bind fun (t27, t28, t29) => some (t18, t27, t28, t29))) else ((spec_l01Next.f K a0_0 t8 t9 a1).bind fun (t42, t43, t44) => ((spec_l01Next.f K a0_0 t43 t44 a1).bind fun (t51, t52, t53) => some (t42, t51, t52, t53))))) : Option (Int × Int × Int × Int)) = some (r0, r1, r2, r3) := h
 clear h
 replace H := Option.bind_eq_some_iff.mp H
 obtain ⟨⟨t7, t8, t9⟩, A10, H⟩ := H
 replace A10 := Aside0.mk A10
 try dsimp only at H
 have ltba0 := Aside0.mk ha0.lt
 go_enter Try.func159, Try.ntmps159
 refine wp_hide (fun Qf hQf => ?_)
 refine wp_seq_k (fun K1 hK1 => ?_)
 refine wp_region_lit ?_
 refine step_new (cs := [.int .i64 0, .int .i64 0]) (T := 30) (f := fun b => .pointer (some ⟨b, 0, none⟩)) rfl (by go_simp <;> rfl) ?_
 intro b2 w3 hu lb hb2
 simp only [Act.put, nm1, nm2, nm3, i64_w]
 have lbb2 := Aside0.mk lb
 have ltb2 := Aside0.mk hb2.lt
 clear lb
 have hu4 := Aside0.mk hu
 clear hu
 refine wpList_nil ?_
 (try simp only [Exit.then, Exit.inBlock, ↓reduceIte, Nat.reduceEqDiff])
 refine hK1 _ _ ?_
 refine wp_seq_k (fun K5 hK5 => ?_)
 refine wp_seq_k (fun K6 hK6 => ?_)
 refine wp_region_lit ?_
 refine wpp fun K_ h_ => ?_; go_simp; refine h_ _ _ ?_; clear h_ K_
 refine step_call (wanted_none rfl) (by go_simp <;> rfl) (spec_l01Next.calls K ba0 a0_0_A a0_0_c a0_0 a0_1 a0_2 4 t7 t8 t9 w3 (ha0.up hu4.out) (ha0_0.up hu4.out) haa0_0 A10.out) ?_
 rintro e w11 ⟨rfl, h12, hs⟩
 have hs13 := Aside0.mk hs
 clear hs
 have h14 := (ha0_0.up hu4.out).growp hs13.out haa0_0
 have h15 := hb2.grow hs13.out (fun k hk e => (Nat.ne_of_lt (Nat.lt_of_lt_of_le ltba0.out lbb2.out)) ((Option.some.inj hk).trans e))
 refine ⟨_, rfl, ?_⟩
 simp only [Act.put, nm1, nm2, nm3, i64_w]
 refine wpp fun K_ h_ => ?_; go_simp; refine h_ _ _ ?_; clear h_ K_
 refine wpList_nil ?_
 (try simp only [Exit.then, Exit.inBlock, ↓reduceIte, Nat.reduceEqDiff])
 refine hK6 _ _ ?_
 by_cases c16 : (t7 == 0) = true
 ·
  rw [if_pos c16] at H
  have c16n : (t7 != 0) = false := by rw [bne, c16]; rfl
  replace H := Option.bind_eq_some_iff.mp H
  obtain ⟨⟨t18, t19, t20⟩, A21, H⟩ := H
  replace A21 := Aside0.mk A21
  try dsimp only at H
  replace H := Option.bind_eq_some_iff.mp H
  obtain ⟨⟨t27, t28, t29⟩, A30, H⟩ := H
  replace A30 := Aside0.mk A30
  try dsimp only at H
  simp only [Option.some.injEq, Prod.mk.injEq] at H
  obtain ⟨rfl, rfl, rfl, rfl⟩ := H
  try simp only [c16, c16n, Bool.not_true, Bool.not_false]
  refine wp_cond_true rfl ?_
  refine wp_seq_k (fun K17 hK17 => ?_)
  refine wp_region_lit ?_
  refine wpp fun K_ h_ => ?_; go_simp; refine h_ _ _ ?_; clear h_ K_
  refine step_call (wanted_none rfl) (by go_simp <;> rfl) (spec_l01Next.calls K ba0 a0_0_A a0_0_c a0_0 t8 t9 3 t18 t19 t20 w11 h12 h14 haa0_0 A21.out) ?_
  rintro e w22 ⟨rfl, h23, hs⟩
  have hs24 := Aside0.mk hs
  clear hs
  have h25 := h14.growp hs24.out haa0_0
  have h26 := h15.grow hs24.out (fun k hk e => (Nat.ne_of_lt (Nat.lt_of_lt_of_le ltba0.out lbb2.out)) ((Option.some.inj hk).trans e))
  refine ⟨_, rfl, ?_⟩
  simp only [Act.put, nm1, nm2, nm3, i64_w]
  refine wpp fun K_ h_ => ?_; go_simp; refine h_ _ _ ?_; clear h_ K_
  refine step_call (wanted_none rfl) (by go_simp <;> rfl) (spec_l01Next.calls K ba0 a0_0_A a0_0_c a0_0 t19 t20 3 t27 t28 t29 w22 h23 h25 haa0_0 A30.out) ?_
  rintro e w31 ⟨rfl, h32, hs⟩
  have hs33 := Aside0.mk hs
  clear hs
  have h34 := h25.growp hs33.out haa0_0
  have h35 := h26.grow hs33.out (fun k hk e => (Nat.ne_of_lt (Nat.lt_of_lt_of_le ltba0.out lbb2.out)) ((Option.some.inj hk).trans e))
  refine ⟨_, rfl, ?_⟩
  simp only [Act.put, nm1, nm2, nm3, i64_w]
  refine wpp fun K_ h_ => ?_; go_simp; refine h_ _ _ ?_; clear h_ K_
  have hB0 := h35
  have cl0 := hB0.cell (o := 0) rfl
  have fr0 := hB0.free 0
  have cl1 := hB0.cell (o := 1) rfl
  have fr1 := hB0.free 1
  refine step_store (b := b2) (cs' := [.int .i64 t18, .int .i64 t27]) (T := 30) (W' := ((w31.setCell ⟨b2, 0, none⟩ (.int .i64 t18)).setCell ⟨b2, 1, none⟩ (.int .i64 t27))) rfl rfl (by go_simp <;> rfl) (((Sto.refl _ _).setCell 0 _).setCell 1 _) (((hB0).setCell 0 _).setCell 1 _) ?_
  clear hB0 cl0 fr0 cl1 fr1
  intro w36 hs hb38
  have hs37 := Aside0.mk hs
  clear hs
  have h39 := h32.sto hs37.out (Nat.ne_of_lt (Nat.lt_of_lt_of_le ltba0.out lbb2.out))
  have h40 := Rd.sto (c := 0) h34 hs37.out (fun k hk hp => Nat.ne_of_lt (Nat.lt_of_lt_of_le (ha0_0.blk_lt hp k hk) (lbb2.out)))
  refine wpList_nil ?_
  (try simp only [Exit.then, Exit.inBlock, ↓reduceIte, Nat.reduceEqDiff])
  refine hK17 _ _ ?_
  refine wp_ret ?_
  (try simp only [Exit.then, Exit.inBlock, ↓reduceIte, Nat.reduceEqDiff])
  refine hQf _ _ _ ?_
  have cr0 := hb38.cell (o := 0) rfl
  have cr1 := hb38.cell (o := 1) rfl
  exact bodyPost_ret (v := .agg #[.int .i64 t18, .int .i64 t27]) (by first | rfl | (simp [results, Try.results159, go_sem, cr0, cr1]; done) | (simp [results, Try.results159, go_sem, cr0, cr1]; rfl)) rfl ⟨rfl, h39, (Grow.sto_young (((((Grow.refl (.pointer (some ⟨ba0, 0, none⟩)) _).trans (Grow.up hu4.out)).trans hs13.out).trans hs24.out).trans hs33.out) hs37.out (Nat.le_trans (Nat.le_refl _) lbb2.out))⟩
 rw [if_neg c16] at H; replace c16 := Bool.eq_false_iff.mpr c16
 have c16n : (t7 != 0) = true := by rw [bne, c16]; rfl
 have c16p : ¬ t7 = 0 := fun e => by simp [e] at c16
 replace H := Option.bind_eq_some_iff.mp H
 obtain ⟨⟨t42, t43, t44⟩, A45, H⟩ := H
 replace A45 := Aside0.mk A45
 try dsimp only at H
 replace H := Option.bind_eq_some_iff.mp H
 obtain ⟨⟨t51, t52, t53⟩, A54, H⟩ := H
 replace A54 := Aside0.mk A54
 try dsimp only at H
 simp only [Option.some.injEq, Prod.mk.injEq] at H
 obtain ⟨rfl, rfl, rfl, rfl⟩ := H
 try simp only [c16, c16n, Bool.not_true, Bool.not_false]
 refine wp_cond_false rfl ?_
 refine wp_skip ?_
 (try simp only [Exit.then, Exit.inBlock, ↓reduceIte, Nat.reduceEqDiff])
 refine hK5 _ _ ?_
 refine wp_seq_k (fun K41 hK41 => ?_)
 refine wp_region_lit ?_
 refine wpp fun K_ h_ => ?_; go_simp; refine h_ _ _ ?_; clear h_ K_
 refine wpp fun K_ h_ => ?_; go_simp; refine h_ _ _ ?_; clear h_ K_
 refine step_call (wanted_none rfl) (by go_simp <;> rfl) (spec_l01Next.calls K ba0 a0_0_A a0_0_c a0_0 t8 t9 a1 t42 t43 t44 w11 h12 h14 haa0_0 A45.out) ?_
 rintro e w46 ⟨rfl, h47, hs⟩
 have hs48 := Aside0.mk hs
 clear hs
 have h49 := h14.growp hs48.out haa0_0
 have h50 := h15.grow hs48.out (fun k hk e => (Nat.ne_of_lt (Nat.lt_of_lt_of_le ltba0.out lbb2.out)) ((Option.some.inj hk).trans e))
 refine ⟨_, rfl, ?_⟩
 simp only [Act.put, nm1, nm2, nm3, i64_w]
 refine wpp fun K_ h_ => ?_; go_simp; refine h_ _ _ ?_; clear h_ K_
 refine wpp fun K_ h_ => ?_; go_simp; refine h_ _ _ ?_; clear h_ K_
 refine step_call (wanted_none rfl) (by go_simp <;> rfl) (spec_l01Next.calls K ba0 a0_0_A a0_0_c a0_0 t43 t44 a1 t51 t52 t53 w46 h47 h49 haa0_0 A54.out) ?_
 rintro e w55 ⟨rfl, h56, hs⟩
 have hs57 := Aside0.mk hs
 clear hs
 have h58 := h49.growp hs57.out haa0_0
 have h59 := h50.grow hs57.out (fun k hk e => (Nat.ne_of_lt (Nat.lt_of_lt_of_le ltba0.out lbb2.out)) ((Option.some.inj hk).trans e))
 refine ⟨_, rfl, ?_⟩
 simp only [Act.put, nm1, nm2, nm3, i64_w]
 refine wpp fun K_ h_ => ?_; go_simp; refine h_ _ _ ?_; clear h_ K_
 have hB0 := h59
 have cl0 := hB0.cell (o := 0) rfl
 have fr0 := hB0.free 0
 have cl1 := hB0.cell (o := 1) rfl
 have fr1 := hB0.free 1
 refine step_store (b := b2) (cs' := [.int .i64 t42, .int .i64 t51]) (T := 30) (W' := ((w55.setCell ⟨b2, 0, none⟩ (.int .i64 t42)).setCell ⟨b2, 1, none⟩ (.int .i64 t51))) rfl rfl (by go_simp <;> rfl) (((Sto.refl _ _).setCell 0 _).setCell 1 _) (((hB0).setCell 0 _).setCell 1 _) ?_
 clear hB0 cl0 fr0 cl1 fr1
 intro w60 hs hb62
 have hs61 := Aside0.mk hs
 clear hs
 have h63 := h56.sto hs61.out (Nat.ne_of_lt (Nat.lt_of_lt_of_le ltba0.out lbb2.out))
 have h64 := Rd.sto (c := 0) h58 hs61.out (fun k hk hp => Nat.ne_of_lt (Nat.lt_of_lt_of_le (ha0_0.blk_lt hp k hk) (lbb2.out)))
 refine wpList_nil ?_
 (try simp only [Exit.then, Exit.inBlock, ↓reduceIte, Nat.reduceEqDiff])
 refine hK41 _ _ ?_
 refine wp_ret ?_
 (try simp only [Exit.then, Exit.inBlock, ↓reduceIte, Nat.reduceEqDiff])
 refine hQf _ _ _ ?_
 have cr0 := hb62.cell (o := 0) rfl
 have cr1 := hb62.cell (o := 1) rfl
 exact bodyPost_ret (v := .agg #[.int .i64 t42, .int .i64 t51]) (by first | rfl | (simp [results, Try.results159, go_sem, cr0, cr1]; done) | (simp [results, Try.results159, go_sem, cr0, cr1]; rfl)) rfl ⟨rfl, h63, (Grow.sto_young (((((Grow.refl (.pointer (some ⟨ba0, 0, none⟩)) _).trans (Grow.up hu4.out)).trans hs13.out).trans hs48.out).trans hs57.out) hs61.out (Nat.le_trans (Nat.le_refl _) lbb2.out))⟩

set_option maxHeartbeats 40000000 in
set_option maxRecDepth 100000 in
theorem spec_l01Mod.calls (K : Nat) (a0 : Int) (a1 : Int) (r0 : Int) (w : World)  (h : spec_l01Mod.f K a0 a1 = some (r0)) :
    Calls Try.prog 111 #[.int .i64 a0, .int .i64 a1] w fun e w' => e = .returned (.int .i64 r0) ∧ Up w w' := by
 have H : ((if (a1 == 0) = true then none else some (Int.tmod (wrap64 ((Int.tmod a0 a1) + a1)) a1)) : Option (Int)) = some (r0) := h
 clear h
 go_enter Try.func111, Try.ntmps111
 refine wp_hide (fun Qf hQf => ?_)
 refine wp_seq_k (fun K1 hK1 => ?_)
 refine wp_region_lit ?_
 refine wpp fun K_ h_ => ?_; go_simp; refine h_ _ _ ?_; clear h_ K_
 refine wpList_nil ?_
 (try simp only [Exit.then, Exit.inBlock, ↓reduceIte, Nat.reduceEqDiff])
 refine hK1 _ _ ?_
 refine wp_seq_k (fun K2 hK2 => ?_)
 refine wp_region_lit ?_
 refine wpp fun K_ h_ => ?_; go_simp; refine h_ _ _ ?_; clear h_ K_
 refine wpp fun K_ h_ => ?_; go_simp; refine h_ _ _ ?_; clear h_ K_
 by_cases c3 : (a1 == 0) = true
 ·
  rw [if_pos c3] at H
  have c3n : (a1 != 0) = false := by rw [bne, c3]; rfl
  exact absurd H (by simp)
 rw [if_neg c3] at H; replace c3 := Bool.eq_false_iff.mpr c3
 have c3n : (a1 != 0) = true := by rw [bne, c3]; rfl
 have c3p : ¬ a1 = 0 := fun e => by simp [e] at c3
 obtain rfl := Option.some.inj H
 try simp only [c3, c3n, Bool.not_true, Bool.not_false]
 refine wpp fun K_ h_ => ?_; go_simp; refine h_ _ _ ?_; clear h_ K_
 refine wpp fun K_ h_ => ?_; go_simp; refine h_ _ _ ?_; clear h_ K_
 refine wpp fun K_ h_ => ?_; go_simp; refine h_ _ _ ?_; clear h_ K_
 refine wpp fun K_ h_ => ?_; go_simp; refine h_ _ _ ?_; clear h_ K_
 refine wpp fun K_ h_ => ?_; go_simp; refine h_ _ _ ?_; clear h_ K_
 refine wpp fun K_ h_ => ?_; go_simp; refine h_ _ _ ?_; clear h_ K_
 refine wpList_nil ?_
 (try simp only [Exit.then, Exit.inBlock, ↓reduceIte, Nat.reduceEqDiff])
 refine hK2 _ _ ?_
 refine wp_ret ?_
 (try simp only [Exit.then, Exit.inBlock, ↓reduceIte, Nat.reduceEqDiff])
 refine hQf _ _ _ ?_
 exact bodyPost_ret (v := .int .i64 (Int.tmod (wrap64 ((Int.tmod a0 a1) + a1)) a1)) (by first | rfl | (simp [results, Try.results111, go_sem]; done) | (simp [results, Try.results111, go_sem]; rfl)) rfl ⟨rfl, (Up.refl _)⟩

set_option maxHeartbeats 40000000 in
set_option maxRecDepth 100000 in
theorem spec_l01Area.calls (K : Nat) (a0 : Int) (a1_0 : Int) (a1_1 : Int) (a2_0 : Int) (a2_1 : Int) (a3_0 : Int) (a3_1 : Int) (r0 : Int) (w : World)  (h : spec_l01Area.f K a0 a1_0 a1_1 a2_0 a2_1 a3_0 a3_1 = some (r0)) :
    Calls Try.prog 156 #[.int .i64 a0, .agg #[.int .i64 a1_0, .int .i64 a1_1], .agg #[.int .i64 a2_0, .int .i64 a2_1], .agg #[.int .i64 a3_0, .int .i64 a3_1]] w fun e w' => e = .returned (.int .i64 r0) ∧ Up w w' := by
 have H : (((spec_l01Mod.f K (wrap64 ((wrap64 ((wrap64 (a2_0 - a1_0)) * (wrap64 (a3_1 - a1_1)))) - (wrap64 ((wrap64 (a2_1 - a1_1)) * (wrap64 (a3_0 - a1_0)))))) a0).bind fun t12 => some t12) : Option (Int)) = some (r0) := h
 clear h
 replace H := Option.bind_eq_some_iff.mp H
 obtain ⟨t12, A13, H⟩ := H
 replace A13 := Aside0.mk A13
 try dsimp only at H
 obtain rfl := Option.some.inj H
 go_enter Try.func156, Try.ntmps156
 refine wp_hide (fun Qf hQf => ?_)
 refine wp_seq_k (fun K1 hK1 => ?_)
 refine wp_region_lit ?_
 refine step_new (cs := [.int .i64 a1_0, .int .i64 a1_1]) (T := 30) (f := fun b => .pointer (some ⟨b, 0, none⟩)) rfl (by go_simp <;> rfl) ?_
 intro b2 w3 hu lb hb2
 simp only [Act.put, nm1, nm2, nm3, i64_w]
 have lbb2 := Aside0.mk lb
 have ltb2 := Aside0.mk hb2.lt
 clear lb
 have hu4 := Aside0.mk hu
 clear hu
 refine step_new (cs := [.int .i64 a2_0, .int .i64 a2_1]) (T := 30) (f := fun b => .pointer (some ⟨b, 0, none⟩)) rfl (by go_simp <;> rfl) ?_
 intro b5 w6 hu lb hb5
 simp only [Act.put, nm1, nm2, nm3, i64_w]
 have lbb5 := Aside0.mk lb
 have ltb5 := Aside0.mk hb5.lt
 clear lb
 have hu7 := Aside0.mk hu
 clear hu
 refine step_new (cs := [.int .i64 a3_0, .int .i64 a3_1]) (T := 30) (f := fun b => .pointer (some ⟨b, 0, none⟩)) rfl (by go_simp <;> rfl) ?_
 intro b8 w9 hu lb hb8
 simp only [Act.put, nm1, nm2, nm3, i64_w]
 have lbb8 := Aside0.mk lb
 have ltb8 := Aside0.mk hb8.lt
 clear lb
 have hu10 := Aside0.mk hu
 clear hu
 refine wpp fun K_ h_ => ?_; go_simp; refine h_ _ _ ?_; clear h_ K_
 refine wpList_nil ?_
 (try simp only [Exit.then, Exit.inBlock, ↓reduceIte, Nat.reduceEqDiff])
 refine hK1 _ _ ?_
 refine wp_seq_k (fun K11 hK11 => ?_)
 refine wp_region_lit ?_
 refine wpp fun K_ h_ => ?_; go_simp; refine h_ _ _ ?_; clear h_ K_
 have cl0 := (hb5.up hu10.out).cell (o := 0) rfl
 refine wpp fun K_ h_ => ?_; go_simp; refine h_ _ _ ?_; clear h_ K_
 clear cl0
 refine wpp fun K_ h_ => ?_; go_simp; refine h_ _ _ ?_; clear h_ K_
 have cl0 := (hb2.up (hu7.out.trans hu10.out)).cell (o := 0) rfl
 refine wpp fun K_ h_ => ?_; go_simp; refine h_ _ _ ?_; clear h_ K_
 clear cl0
 refine wpp fun K_ h_ => ?_; go_simp; refine h_ _ _ ?_; clear h_ K_
 refine wpp fun K_ h_ => ?_; go_simp; refine h_ _ _ ?_; clear h_ K_
 have cl0 := hb8.cell (o := 1) rfl
 refine wpp fun K_ h_ => ?_; go_simp; refine h_ _ _ ?_; clear h_ K_
 clear cl0
 refine wpp fun K_ h_ => ?_; go_simp; refine h_ _ _ ?_; clear h_ K_
 have cl0 := (hb2.up (hu7.out.trans hu10.out)).cell (o := 1) rfl
 refine wpp fun K_ h_ => ?_; go_simp; refine h_ _ _ ?_; clear h_ K_
 clear cl0
 refine wpp fun K_ h_ => ?_; go_simp; refine h_ _ _ ?_; clear h_ K_
 refine wpp fun K_ h_ => ?_; go_simp; refine h_ _ _ ?_; clear h_ K_
 refine wpp fun K_ h_ => ?_; go_simp; refine h_ _ _ ?_; clear h_ K_
 have cl0 := (hb5.up hu10.out).cell (o := 1) rfl
 refine wpp fun K_ h_ => ?_; go_simp; refine h_ _ _ ?_; clear h_ K_
 clear cl0
 refine wpp fun K_ h_ => ?_; go_simp; refine h_ _ _ ?_; clear h_ K_
 have cl0 := (hb2.up (hu7.out.trans hu10.out)).cell (o := 1) rfl
 refine wpp fun K_ h_ => ?_; go_simp; refine h_ _ _ ?_; clear h_ K_
 clear cl0
 refine wpp fun K_ h_ => ?_; go_simp; refine h_ _ _ ?_; clear h_ K_
 refine wpp fun K_ h_ => ?_; go_simp; refine h_ _ _ ?_; clear h_ K_
 have cl0 := hb8.cell (o := 0) rfl
 refine wpp fun K_ h_ => ?_; go_simp; refine h_ _ _ ?_; clear h_ K_
 clear cl0
 refine wpp fun K_ h_ => ?_; go_simp; refine h_ _ _ ?_; clear h_ K_
 have cl0 := (hb2.up (hu7.out.trans hu10.out)).cell (o := 0) rfl
 refine wpp fun K_ h_ => ?_; go_simp; refine h_ _ _ ?_; clear h_ K_
 clear cl0
 refine wpp fun K_ h_ => ?_; go_simp; refine h_ _ _ ?_; clear h_ K_
 refine wpp fun K_ h_ => ?_; go_simp; refine h_ _ _ ?_; clear h_ K_
 refine wpp fun K_ h_ => ?_; go_simp; refine h_ _ _ ?_; clear h_ K_
 refine wpp fun K_ h_ => ?_; go_simp; refine h_ _ _ ?_; clear h_ K_
 refine step_call (wanted_none rfl) (by go_simp <;> rfl) (spec_l01Mod.calls K (wrap64 ((wrap64 ((wrap64 (a2_0 - a1_0)) * (wrap64 (a3_1 - a1_1)))) - (wrap64 ((wrap64 (a2_1 - a1_1)) * (wrap64 (a3_0 - a1_0)))))) a0 t12 w9  A13.out) ?_
 rintro e w14 ⟨rfl, hu⟩
 have hu15 := Aside0.mk hu
 clear hu
 refine ⟨_, rfl, ?_⟩
 simp only [Act.put, nm1, nm2, nm3, i64_w]
 refine wpp fun K_ h_ => ?_; go_simp; refine h_ _ _ ?_; clear h_ K_
 refine wpList_nil ?_
 (try simp only [Exit.then, Exit.inBlock, ↓reduceIte, Nat.reduceEqDiff])
 refine hK11 _ _ ?_
 refine wp_ret ?_
 (try simp only [Exit.then, Exit.inBlock, ↓reduceIte, Nat.reduceEqDiff])
 refine hQf _ _ _ ?_
 exact bodyPost_ret (v := .int .i64 t12) (by first | rfl | (simp [results, Try.results156, go_sem]; done) | (simp [results, Try.results156, go_sem]; rfl)) rfl ⟨rfl, (((hu4.out.trans hu7.out).trans hu10.out).trans hu15.out)⟩

set_option maxHeartbeats 40000000 in
set_option maxRecDepth 100000 in
theorem spec_l04DrawOf.calls (K : Nat) (ba0 : Nat) (a0_0_A : Option Addr) (a0_0_c : Nat) (a0_0 : List (Int)) (a0_1 : Int) (a0_2 : Int) (a1 : Int) (r0 : Int) (r1 : Int) (r2 : Int) (r3 : Int) (r4 : Int) (r5 : Int) (r6 : Int) (r7 : Int) (w : World) (ha0 : Blk w ba0 [.slice a0_0_A a0_0.length a0_0_c, .int .i64 a0_1, .int .u64 a0_2] 158) (ha0_0 : Rd eU8 w a0_0_A a0_0) (haa0_0 : ∀ k, blk (.slice a0_0_A a0_0.length a0_0_c) = some k → 0 < a0_0.length → k ≠ ba0) (h : spec_l04DrawOf.f K a0_0 a0_1 a0_2 a1 = some (r0, r1, r2, r3, r4, r5, r6, r7)) :
    Calls Try.prog 194 #[.pointer (some ⟨ba0, 0, none⟩), .int .i64 a1] w fun e w' => e = .returned (.tuple #[.agg #[.int .i64 r0, .int .i64 r1], .agg #[.int .i64 r2, .int .i64 r3], .agg #[.int .i64 r4, .int .i64 r5]]) ∧ Blk w' ba0 [.slice a0_0_A a0_0.length a0_0_c, .int .i64 r6, .int .u64 r7] 158 ∧ Grow (.pointer (some ⟨ba0, 0, none⟩)) w w' := by
 have H : (((spec_l01DrawPoint.f K a0_0 a0_1 a0_2 a1).bind fun (t12, t13, t14, t15) => ((spec_l01DrawPoint.f K a0_0 t14 t15 a1).bind fun (t24, t25, t26, t27) => ((spec_l01DrawPoint.f K a0_0 t26 t27 a1).bind fun (t36, t37, t38, t39) => (spec_l04DrawOf.l0 K a0_0 a1 t12 t13 K 0 t38 t39 0 0 0 0 0 0 t24 t25 t36 t37)))) : Option (Int × Int × Int × Int × Int × Int × Int × Int)) = some (r0, r1, r2, r3, r4, r5, r6, r7) := h
 clear h
 replace H := Option.bind_eq_some_iff.mp H
 obtain ⟨⟨t12, t13, t14, t15⟩, A16, H⟩ := H
 replace A16 := Aside0.mk A16
 try dsimp only at H
 replace H := Option.bind_eq_some_iff.mp H
 obtain ⟨⟨t24, t25, t26, t27⟩, A28, H⟩ := H
 replace A28 := Aside0.mk A28
 try dsimp only at H
 replace H := Option.bind_eq_some_iff.mp H
 obtain ⟨⟨t36, t37, t38, t39⟩, A40, H⟩ := H
 replace A40 := Aside0.mk A40
 try dsimp only at H
 have ltba0 := Aside0.mk ha0.lt
 go_enter Try.func194, Try.ntmps194
 refine wp_hide (fun Qf hQf => ?_)
 refine wp_seq_k (fun K1 hK1 => ?_)
 refine wp_region_lit ?_
 refine step_new (cs := [.int .i64 0, .int .i64 0]) (T := 30) (f := fun b => .pointer (some ⟨b, 0, none⟩)) rfl (by go_simp <;> rfl) ?_
 intro b2 w3 hu lb hb2
 simp only [Act.put, nm1, nm2, nm3, i64_w]
 have lbb2 := Aside0.mk lb
 have ltb2 := Aside0.mk hb2.lt
 clear lb
 have hu4 := Aside0.mk hu
 clear hu
 refine step_new (cs := [.int .i64 0, .int .i64 0]) (T := 30) (f := fun b => .pointer (some ⟨b, 0, none⟩)) rfl (by go_simp <;> rfl) ?_
 intro b5 w6 hu lb hb5
 simp only [Act.put, nm1, nm2, nm3, i64_w]
 have lbb5 := Aside0.mk lb
 have ltb5 := Aside0.mk hb5.lt
 clear lb
 have hu7 := Aside0.mk hu
 clear hu
 refine step_new (cs := [.int .i64 0, .int .i64 0]) (T := 30) (f := fun b => .pointer (some ⟨b, 0, none⟩)) rfl (by go_simp <;> rfl) ?_
 intro b8 w9 hu lb hb8
 simp only [Act.put, nm1, nm2, nm3, i64_w]
 have lbb8 := Aside0.mk lb
 have ltb8 := Aside0.mk hb8.lt
 clear lb
 have hu10 := Aside0.mk hu
 clear hu
 refine wpList_nil ?_
 (try simp only [Exit.then, Exit.inBlock, ↓reduceIte, Nat.reduceEqDiff])
 refine hK1 _ _ ?_
 refine wp_seq_k (fun K11 hK11 => ?_)
 refine wp_region_lit ?_
 refine wpp fun K_ h_ => ?_; go_simp; refine h_ _ _ ?_; clear h_ K_
 refine wpp fun K_ h_ => ?_; go_simp; refine h_ _ _ ?_; clear h_ K_
 refine step_call (wanted_none rfl) (by go_simp <;> rfl) (spec_l01DrawPoint.calls K ba0 a0_0_A a0_0_c a0_0 a0_1 a0_2 a1 t12 t13 t14 t15 w9 (ha0.up ((hu4.out.trans hu7.out).trans hu10.out)) (ha0_0.up ((hu4.out.trans hu7.out).trans hu10.out)) haa0_0 A16.out) ?_
 rintro e w17 ⟨rfl, h18, hs⟩
 have hs19 := Aside0.mk hs
 clear hs
 have h20 := (ha0_0.up ((hu4.out.trans hu7.out).trans hu10.out)).growp hs19.out haa0_0
 have h21 := (hb2.up (hu7.out.trans hu10.out)).grow hs19.out (fun k hk e => (Nat.ne_of_lt (Nat.lt_of_lt_of_le ltba0.out lbb2.out)) ((Option.some.inj hk).trans e))
 have h22 := (hb5.up hu10.out).grow hs19.out (fun k hk e => (Nat.ne_of_lt (Nat.lt_of_lt_of_le (Nat.lt_of_lt_of_le ltba0.out (hu4.out.size)) lbb5.out)) ((Option.some.inj hk).trans e))
 have h23 := hb8.grow hs19.out (fun k hk e => (Nat.ne_of_lt (Nat.lt_of_lt_of_le (Nat.lt_of_lt_of_le ltba0.out ((Nat.le_trans (hu4.out.size) hu7.out.size))) lbb8.out)) ((Option.some.inj hk).trans e))
 refine ⟨_, rfl, ?_⟩
 simp only [Act.put, nm1, nm2, nm3, i64_w]
 refine wpp fun K_ h_ => ?_; go_simp; refine h_ _ _ ?_; clear h_ K_
 refine wpp fun K_ h_ => ?_; go_simp; refine h_ _ _ ?_; clear h_ K_
 refine step_call (wanted_none rfl) (by go_simp <;> rfl) (spec_l01DrawPoint.calls K ba0 a0_0_A a0_0_c a0_0 t14 t15 a1 t24 t25 t26 t27 w17 h18 h20 haa0_0 A28.out) ?_
 rintro e w29 ⟨rfl, h30, hs⟩
 have hs31 := Aside0.mk hs
 clear hs
 have h32 := h20.growp hs31.out haa0_0
 have h33 := h21.grow hs31.out (fun k hk e => (Nat.ne_of_lt (Nat.lt_of_lt_of_le ltba0.out lbb2.out)) ((Option.some.inj hk).trans e))
 have h34 := h22.grow hs31.out (fun k hk e => (Nat.ne_of_lt (Nat.lt_of_lt_of_le (Nat.lt_of_lt_of_le ltba0.out (hu4.out.size)) lbb5.out)) ((Option.some.inj hk).trans e))
 have h35 := h23.grow hs31.out (fun k hk e => (Nat.ne_of_lt (Nat.lt_of_lt_of_le (Nat.lt_of_lt_of_le ltba0.out ((Nat.le_trans (hu4.out.size) hu7.out.size))) lbb8.out)) ((Option.some.inj hk).trans e))
 refine ⟨_, rfl, ?_⟩
 simp only [Act.put, nm1, nm2, nm3, i64_w]
 refine wpp fun K_ h_ => ?_; go_simp; refine h_ _ _ ?_; clear h_ K_
 refine wpp fun K_ h_ => ?_; go_simp; refine h_ _ _ ?_; clear h_ K_
 refine step_call (wanted_none rfl) (by go_simp <;> rfl) (spec_l01DrawPoint.calls K ba0 a0_0_A a0_0_c a0_0 t26 t27 a1 t36 t37 t38 t39 w29 h30 h32 haa0_0 A40.out) ?_
 rintro e w41 ⟨rfl, h42, hs⟩
 have hs43 := Aside0.mk hs
 clear hs
 have h44 := h32.growp hs43.out haa0_0
 have h45 := h33.grow hs43.out (fun k hk e => (Nat.ne_of_lt (Nat.lt_of_lt_of_le ltba0.out lbb2.out)) ((Option.some.inj hk).trans e))
 have h46 := h34.grow hs43.out (fun k hk e => (Nat.ne_of_lt (Nat.lt_of_lt_of_le (Nat.lt_of_lt_of_le ltba0.out (hu4.out.size)) lbb5.out)) ((Option.some.inj hk).trans e))
 have h47 := h35.grow hs43.out (fun k hk e => (Nat.ne_of_lt (Nat.lt_of_lt_of_le (Nat.lt_of_lt_of_le ltba0.out ((Nat.le_trans (hu4.out.size) hu7.out.size))) lbb8.out)) ((Option.some.inj hk).trans e))
 refine ⟨_, rfl, ?_⟩
 simp only [Act.put, nm1, nm2, nm3, i64_w]
 refine step_new (cs := [.int .i64 0, .int .i64 0]) (T := 30) (f := fun b => .pointer (some ⟨b, 0, none⟩)) rfl (by go_simp <;> rfl) ?_
 intro b48 w49 hu lb hb48
 simp only [Act.put, nm1, nm2, nm3, i64_w]
 have lbb48 := Aside0.mk lb
 have ltb48 := Aside0.mk hb48.lt
 clear lb
 have hu50 := Aside0.mk hu
 clear hu
 refine step_new (cs := [.int .i64 0, .int .i64 0]) (T := 30) (f := fun b => .pointer (some ⟨b, 0, none⟩)) rfl (by go_simp <;> rfl) ?_
 intro b51 w52 hu lb hb51
 simp only [Act.put, nm1, nm2, nm3, i64_w]
 have lbb51 := Aside0.mk lb
 have ltb51 := Aside0.mk hb51.lt
 clear lb
 have hu53 := Aside0.mk hu
 clear hu
 refine step_new (cs := [.int .i64 0, .int .i64 0]) (T := 30) (f := fun b => .pointer (some ⟨b, 0, none⟩)) rfl (by go_simp <;> rfl) ?_
 intro b54 w55 hu lb hb54
 simp only [Act.put, nm1, nm2, nm3, i64_w]
 have lbb54 := Aside0.mk lb
 have ltb54 := Aside0.mk hb54.lt
 clear lb
 have hu56 := Aside0.mk hu
 clear hu
 have hB0 := (hb48.up (hu53.out.trans hu56.out))
 have cl0 := hB0.cell (o := 0) rfl
 have fr0 := hB0.free 0
 have cl1 := hB0.cell (o := 1) rfl
 have fr1 := hB0.free 1
 refine step_store (b := b48) (cs' := [.int .i64 t12, .int .i64 t13]) (T := 30) (W' := ((w55.setCell ⟨b48, 0, none⟩ (.int .i64 t12)).setCell ⟨b48, 1, none⟩ (.int .i64 t13))) rfl rfl (by go_simp <;> rfl) (((Sto.refl _ _).setCell 0 _).setCell 1 _) (((hB0).setCell 0 _).setCell 1 _) ?_
 clear hB0 cl0 fr0 cl1 fr1
 intro w57 hs hb59
 have hs58 := Aside0.mk hs
 clear hs
 have h60 := (hb51.up hu56.out).sto hs58.out (Ne.symm (Nat.ne_of_lt (Nat.lt_of_lt_of_le ltb48.out lbb51.out)))
 have h61 := hb54.sto hs58.out (Ne.symm (Nat.ne_of_lt (Nat.lt_of_lt_of_le (Nat.lt_of_lt_of_le ltb48.out (hu53.out.size)) lbb54.out)))
 have hB0 := h60
 have cl0 := hB0.cell (o := 0) rfl
 have fr0 := hB0.free 0
 have cl1 := hB0.cell (o := 1) rfl
 have fr1 := hB0.free 1
 refine step_store (b := b51) (cs' := [.int .i64 t24, .int .i64 t25]) (T := 30) (W' := ((w57.setCell ⟨b51, 0, none⟩ (.int .i64 t24)).setCell ⟨b51, 1, none⟩ (.int .i64 t25))) rfl rfl (by go_simp <;> rfl) (((Sto.refl _ _).setCell 0 _).setCell 1 _) (((hB0).setCell 0 _).setCell 1 _) ?_
 clear hB0 cl0 fr0 cl1 fr1
 intro w62 hs hb64
 have hs63 := Aside0.mk hs
 clear hs
 have h65 := hb59.sto hs63.out (Nat.ne_of_lt (Nat.lt_of_lt_of_le ltb48.out lbb51.out))
 have h66 := h61.sto hs63.out (Ne.symm (Nat.ne_of_lt (Nat.lt_of_lt_of_le ltb51.out lbb54.out)))
 have hB0 := h66
 have cl0 := hB0.cell (o := 0) rfl
 have fr0 := hB0.free 0
 have cl1 := hB0.cell (o := 1) rfl
 have fr1 := hB0.free 1
 refine step_store (b := b54) (cs' := [.int .i64 t36, .int .i64 t37]) (T := 30) (W' := ((w62.setCell ⟨b54, 0, none⟩ (.int .i64 t36)).setCell ⟨b54, 1, none⟩ (.int .i64 t37))) rfl rfl (by go_simp <;> rfl) (((Sto.refl _ _).setCell 0 _).setCell 1 _) (((hB0).setCell 0 _).setCell 1 _) ?_
 clear hB0 cl0 fr0 cl1 fr1
 intro w67 hs hb69
 have hs68 := Aside0.mk hs
 clear hs
 have h70 := h65.sto hs68.out (Nat.ne_of_lt (Nat.lt_of_lt_of_le (Nat.lt_of_lt_of_le ltb48.out (hu53.out.size)) lbb54.out))
 have h71 := hb64.sto hs68.out (Nat.ne_of_lt (Nat.lt_of_lt_of_le ltb51.out lbb54.out))
 refine wpList_nil ?_
 (try simp only [Exit.then, Exit.inBlock, ↓reduceIte, Nat.reduceEqDiff])
 refine hK11 _ _ ?_
 refine wp_seq_k (fun K72 hK72 => ?_)
 refine wp_seq_k (fun K73 hK73 => ?_)
 refine wp_region_lit ?_
 refine wpp fun K_ h_ => ?_; go_simp; refine h_ _ _ ?_; clear h_ K_
 refine wpList_nil ?_
 (try simp only [Exit.then, Exit.inBlock, ↓reduceIte, Nat.reduceEqDiff])
 refine hK73 _ _ ?_
 refine wp_block ?_
 have HL90 := Aside0.mk H
 clear H
 go_loopg [10] K (fun kq v10 w' => ∃ (x74 : Int) (x75 : Int) (x76 : Int) (x77 : Int) (x78 : Int) (x79 : Int) (x80 : Int) (x81 : Int) (x82 : Int) (x83 : Int) (x84 : Int) (x85 : Int) (x86 : Int), v10 = .int .i64 x74 ∧ Aside0 (spec_l04DrawOf.l0 K a0_0 a1 t12 t13 kq x74 x75 x76 x77 x78 x79 x80 x81 x82 x83 x84 x85 x86 = some (r0, r1, r2, r3, r4, r5, r6, r7)) ∧ Aside0 (kq ≤ K) ∧ Aside0 (Grow (.pointer (some ⟨ba0, 0, none⟩)) w w') ∧ Aside0 (w67.heap.size ≤ w'.heap.size) ∧ Rd eU8 w' a0_0_A a0_0 ∧ Blk w' ba0 [.slice a0_0_A a0_0.length a0_0_c, .int .i64 x75, .int .u64 x76] 158 ∧ Blk w' b2 [.int .i64 x77, .int .i64 x78] 30 ∧ Blk w' b5 [.int .i64 x79, .int .i64 x80] 30 ∧ Blk w' b8 [.int .i64 x81, .int .i64 x82] 30 ∧ Blk w' b48 [.int .i64 t12, .int .i64 t13] 30 ∧ Blk w' b51 [.int .i64 x83, .int .i64 x84] 30 ∧ Blk w' b54 [.int .i64 x85, .int .i64 x86] 30)
 case atStart => exact ⟨0, t38, t39, 0, 0, 0, 0, 0, 0, t24, t25, t36, t37, (by first | rfl | simp), HL90, ⟨Nat.le_refl _⟩, ⟨(Grow.sto_young (Grow.sto_young (Grow.sto_young ((((((((((Grow.refl (.pointer (some ⟨ba0, 0, none⟩)) _).trans (Grow.up hu4.out)).trans (Grow.up hu7.out)).trans (Grow.up hu10.out)).trans hs19.out).trans hs31.out).trans hs43.out).trans (Grow.up hu50.out)).trans (Grow.up hu53.out)).trans (Grow.up hu56.out)) hs58.out (Nat.le_trans ((Nat.le_trans ((Nat.le_trans ((Nat.le_trans ((Nat.le_trans ((Nat.le_trans (hu4.out.size) hu7.out.size)) hu10.out.size)) hs19.out.size)) hs31.out.size)) hs43.out.size)) lbb48.out)) hs63.out (Nat.le_trans ((Nat.le_trans ((Nat.le_trans ((Nat.le_trans ((Nat.le_trans ((Nat.le_trans ((Nat.le_trans (hu4.out.size) hu7.out.size)) hu10.out.size)) hs19.out.size)) hs31.out.size)) hs43.out.size)) hu50.out.size)) lbb51.out)) hs68.out (Nat.le_trans ((Nat.le_trans ((Nat.le_trans ((Nat.le_trans ((Nat.le_trans ((Nat.le_trans ((Nat.le_trans ((Nat.le_trans (hu4.out.size) hu7.out.size)) hu10.out.size)) hs19.out.size)) hs31.out.size)) hs43.out.size)) hu50.out.size)) hu53.out.size)) lbb54.out))⟩, ⟨Nat.le_refl _⟩, (h44.up (((((hu50.out.trans hu53.out).trans hu56.out).sto (Nat.le_trans (Nat.le_refl _) lbb48.out) hs58.out).sto (Nat.le_trans (hu50.out.size) lbb51.out) hs63.out).sto (Nat.le_trans ((Nat.le_trans (hu50.out.size) hu53.out.size)) lbb54.out) hs68.out)), (h42.up (((((hu50.out.trans hu53.out).trans hu56.out).sto (Nat.le_trans (Nat.le_refl _) lbb48.out) hs58.out).sto (Nat.le_trans (hu50.out.size) lbb51.out) hs63.out).sto (Nat.le_trans ((Nat.le_trans (hu50.out.size) hu53.out.size)) lbb54.out) hs68.out)), (h45.up (((((hu50.out.trans hu53.out).trans hu56.out).sto (Nat.le_trans (Nat.le_refl _) lbb48.out) hs58.out).sto (Nat.le_trans (hu50.out.size) lbb51.out) hs63.out).sto (Nat.le_trans ((Nat.le_trans (hu50.out.size) hu53.out.size)) lbb54.out) hs68.out)), (h46.up (((((hu50.out.trans hu53.out).trans hu56.out).sto (Nat.le_trans (Nat.le_refl _) lbb48.out) hs58.out).sto (Nat.le_trans (hu50.out.size) lbb51.out) hs63.out).sto (Nat.le_trans ((Nat.le_trans (hu50.out.size) hu53.out.size)) lbb54.out) hs68.out)), (h47.up (((((hu50.out.trans hu53.out).trans hu56.out).sto (Nat.le_trans (Nat.le_refl _) lbb48.out) hs58.out).sto (Nat.le_trans (hu50.out.size) lbb51.out) hs63.out).sto (Nat.le_trans ((Nat.le_trans (hu50.out.size) hu53.out.size)) lbb54.out) hs68.out)), h70, h71, hb69⟩
 case round =>
  rename_i J102 K103 hJ102 hK103
  obtain ⟨x74, x75, x76, x77, x78, x79, x80, x81, x82, x83, x84, x85, x86, rfl, HL101, hk100, hu88, hz89, h91, h92, h93, h94, h95, h96, h97, h98⟩ := hrel
  obtain ⟨w87, rfl⟩ : ∃ wo : World, wo = wr := ⟨_, rfl⟩
  obtain ⟨k99, rfl⟩ | rfl : (∃ k, gk = k + 1) ∨ gk = 0 := by rcases gk with _ | k; exact .inr rfl; exact .inl ⟨k, rfl⟩
  case inr => exact absurd HL101.out (by simp [spec_l04DrawOf.l0])
  have H := HL101.out
  clear HL101
  rw [spec_l04DrawOf.l0] at H
  refine wp_seq_k (fun K104 hK104 => ?_)
  refine wp_seq_k (fun K105 hK105 => ?_)
  refine wp_region_lit ?_
  refine wpp fun K_ h_ => ?_; go_simp; refine h_ _ _ ?_; clear h_ K_
  refine wpp fun K_ h_ => ?_; go_simp; refine h_ _ _ ?_; clear h_ K_
  refine wpp fun K_ h_ => ?_; go_simp; refine h_ _ _ ?_; clear h_ K_
  have hm107 := Aside0.mk (Nat.le_trans ((Nat.le_trans ((Nat.le_trans ((Nat.le_trans ((Nat.le_trans ((Nat.le_trans ((Nat.le_trans ((Nat.le_trans ((Nat.le_trans ((Nat.le_trans ((Nat.le_trans ((Nat.le_trans (hu4.out.size) hu7.out.size)) hu10.out.size)) hs19.out.size)) hs31.out.size)) hs43.out.size)) hu50.out.size)) hu53.out.size)) hu56.out.size)) (Nat.le_of_eq hs58.out.size.symm))) (Nat.le_of_eq hs63.out.size.symm))) (Nat.le_of_eq hs68.out.size.symm))) hz89.out)
  by_cases c106 : (decide (x74 < 6)) = true
  rotate_left
  ·
   rw [if_neg c106] at H; replace c106 := Bool.eq_false_iff.mpr c106
   simp only [Option.some.injEq, Prod.mk.injEq] at H
   obtain ⟨rfl, rfl, rfl, rfl, rfl, rfl, rfl, rfl⟩ := H
   try simp only [c106, Bool.not_true, Bool.not_false]
   refine step_no rfl ?_
   simp only [Act.put, nm1, nm2, nm3, i64_w]
   refine step_no rfl ?_
   simp only [Act.put, nm1, nm2, nm3, i64_w]
   refine step_no rfl ?_
   simp only [Act.put, nm1, nm2, nm3, i64_w]
   refine step_no rfl ?_
   simp only [Act.put, nm1, nm2, nm3, i64_w]
   refine step_no rfl ?_
   simp only [Act.put, nm1, nm2, nm3, i64_w]
   refine step_no rfl ?_
   simp only [Act.put, nm1, nm2, nm3, i64_w]
   refine wpp fun K_ h_ => ?_; go_simp; refine h_ _ _ ?_; clear h_ K_
   refine wpList_nil ?_
   (try simp only [Exit.then, Exit.inBlock, ↓reduceIte, Nat.reduceEqDiff])
   refine hK105 _ _ ?_
   refine wp_cond_false rfl ?_
   refine wp_exit ?_
   (try simp only [Exit.then, Exit.inBlock, ↓reduceIte, Nat.reduceEqDiff])
   refine hK72 _ _ ?_
   refine wp_seq_k (fun K199 hK199 => ?_)
   have hTT_ : ∀ w_, Up (World.drew w87) w_ → (fun w_ => Blk w_ b51 [.int .i64 x83, .int .i64 x84] 30 ∧ Blk w_ b54 [.int .i64 x85, .int .i64 x86] 30 ∧ True) w_ := fun w_ hu_ => ⟨h97.up ((Up.refl _).drew.trans hu_), h98.up ((Up.refl _).drew.trans hu_), True.intro⟩
   refine' wp_region_pure (fun w_ => Blk w_ b51 [.int .i64 x83, .int .i64 x84] 30 ∧ Blk w_ b54 [.int .i64 x85, .int .i64 x86] 30 ∧ True) 3 [1, 2] [Slot.det _, Slot.pur _, Slot.pur _] (by kernel_rfl) [false, true, true] (by kernel_rfl) rfl (by kernel_rfl) (by decide) hTT_ ?main
   case main =>
    simp only [List.take_succ_cons, List.take_zero]
    refine wpK_ops rfl (fun w1 hu => ?_) ?_
    · have cl0 := (h96.up ((Up.refl _).drew.trans hu)).cell (o := 0) rfl
      have cl1 := (h96.up ((Up.refl _).drew.trans hu)).cell (o := 1) rfl
      go_simp
      first | done | rfl
    simp only [Act.put, nm1, nm2, nm3, i64_w]
    refine wpK_pur rfl hTT_ (fun w1 hT => ?_) ?_
    · have hB_ := hT.1
      have cl0 := hB_.cell (o := 0) rfl
      have cl1 := hB_.cell (o := 1) rfl
      clear hT
      go_simp
      first | done | rfl
    simp only [Act.put, nm1, nm2, nm3, i64_w]
    refine wpK_pur rfl hTT_ (fun w1 hT => ?_) ?_
    · have hB_ := hT.2.1
      have cl0 := hB_.cell (o := 0) rfl
      have cl1 := hB_.cell (o := 1) rfl
      clear hT
      go_simp
      first | done | rfl
    simp only [Act.put, nm1, nm2, nm3, i64_w]
    refine wpK_nil ?_
    intro w200 hu hap
    simp only [List.drop_succ_cons, List.drop_zero]
    replace hu := (Up.refl _).drew.trans hu
    clear hap
    have hu201 := Aside0.mk hu
    clear hu
    refine late_consT ⟨(h97.up hu201.out), (h98.up hu201.out), True.intro⟩ ?_
    have hB0 := (h93.up hu201.out)
    have cl0 := hB0.cell (o := 0) rfl
    have fr0 := hB0.free 0
    have cl1 := hB0.cell (o := 1) rfl
    have fr1 := hB0.free 1
    refine step_store (b := b2) (cs' := [.int .i64 t12, .int .i64 t13]) (T := 30) (W' := ((w200.setCell ⟨b2, 0, none⟩ (.int .i64 t12)).setCell ⟨b2, 1, none⟩ (.int .i64 t13))) rfl rfl (by go_simp <;> rfl) (((Sto.refl _ _).setCell 0 _).setCell 1 _) (((hB0).setCell 0 _).setCell 1 _) ?_
    clear hB0 cl0 fr0 cl1 fr1
    intro w202 hs hb204
    have hs203 := Aside0.mk hs
    clear hs
    have h205 := (h92.up hu201.out).sto hs203.out (Nat.ne_of_lt (Nat.lt_of_lt_of_le ltba0.out lbb2.out))
    have h206 := Rd.sto (c := 0) (h91.up hu201.out) hs203.out (fun k hk hp => Nat.ne_of_lt (Nat.lt_of_lt_of_le (ha0_0.blk_lt hp k hk) (lbb2.out)))
    have h207 := (h94.up hu201.out).sto hs203.out (Ne.symm (Nat.ne_of_lt (Nat.lt_of_lt_of_le ltb2.out lbb5.out)))
    have h208 := (h95.up hu201.out).sto hs203.out (Ne.symm (Nat.ne_of_lt (Nat.lt_of_lt_of_le (Nat.lt_of_lt_of_le ltb2.out (hu7.out.size)) lbb8.out)))
    have h209 := (h96.up hu201.out).sto hs203.out (Ne.symm (Nat.ne_of_lt (Nat.lt_of_lt_of_le (Nat.lt_of_lt_of_le ltb2.out ((Nat.le_trans ((Nat.le_trans ((Nat.le_trans ((Nat.le_trans (hu7.out.size) hu10.out.size)) hs19.out.size)) hs31.out.size)) hs43.out.size))) lbb48.out)))
    have h210 := (h97.up hu201.out).sto hs203.out (Ne.symm (Nat.ne_of_lt (Nat.lt_of_lt_of_le (Nat.lt_of_lt_of_le ltb2.out ((Nat.le_trans ((Nat.le_trans ((Nat.le_trans ((Nat.le_trans ((Nat.le_trans (hu7.out.size) hu10.out.size)) hs19.out.size)) hs31.out.size)) hs43.out.size)) hu50.out.size))) lbb51.out)))
    have h211 := (h98.up hu201.out).sto hs203.out (Ne.symm (Nat.ne_of_lt (Nat.lt_of_lt_of_le (Nat.lt_of_lt_of_le ltb2.out ((Nat.le_trans ((Nat.le_trans ((Nat.le_trans ((Nat.le_trans ((Nat.le_trans ((Nat.le_trans (hu7.out.size) hu10.out.size)) hs19.out.size)) hs31.out.size)) hs43.out.size)) hu50.out.size)) hu53.out.size))) lbb54.out)))
    refine wpList_nil ?_
    refine wrapQ_k ?_
    refine late_consT ⟨h210, h211, True.intro⟩ ?_
    have hB0 := h207
    have cl0 := hB0.cell (o := 0) rfl
    have fr0 := hB0.free 0
    have cl1 := hB0.cell (o := 1) rfl
    have fr1 := hB0.free 1
    refine step_store (b := b5) (cs' := [.int .i64 x83, .int .i64 x84]) (T := 30) (W' := ((w202.setCell ⟨b5, 0, none⟩ (.int .i64 x83)).setCell ⟨b5, 1, none⟩ (.int .i64 x84))) rfl rfl (by go_simp <;> rfl) (((Sto.refl _ _).setCell 0 _).setCell 1 _) (((hB0).setCell 0 _).setCell 1 _) ?_
    clear hB0 cl0 fr0 cl1 fr1
    intro w212 hs hb214
    have hs213 := Aside0.mk hs
    clear hs
    have h215 := h205.sto hs213.out (Nat.ne_of_lt (Nat.lt_of_lt_of_le (Nat.lt_of_lt_of_le ltba0.out (hu4.out.size)) lbb5.out))
    have h216 := Rd.sto (c := 0) h206 hs213.out (fun k hk hp => Nat.ne_of_lt (Nat.lt_of_lt_of_le (ha0_0.blk_lt hp k hk) ((Nat.le_trans (hu4.out.size) lbb5.out))))
    have h217 := hb204.sto hs213.out (Nat.ne_of_lt (Nat.lt_of_lt_of_le ltb2.out lbb5.out))
    have h218 := h208.sto hs213.out (Ne.symm (Nat.ne_of_lt (Nat.lt_of_lt_of_le ltb5.out lbb8.out)))
    have h219 := h209.sto hs213.out (Ne.symm (Nat.ne_of_lt (Nat.lt_of_lt_of_le (Nat.lt_of_lt_of_le ltb5.out ((Nat.le_trans ((Nat.le_trans ((Nat.le_trans (hu10.out.size) hs19.out.size)) hs31.out.size)) hs43.out.size))) lbb48.out)))
    have h220 := h210.sto hs213.out (Ne.symm (Nat.ne_of_lt (Nat.lt_of_lt_of_le (Nat.lt_of_lt_of_le ltb5.out ((Nat.le_trans ((Nat.le_trans ((Nat.le_trans ((Nat.le_trans (hu10.out.size) hs19.out.size)) hs31.out.size)) hs43.out.size)) hu50.out.size))) lbb51.out)))
    have h221 := h211.sto hs213.out (Ne.symm (Nat.ne_of_lt (Nat.lt_of_lt_of_le (Nat.lt_of_lt_of_le ltb5.out ((Nat.le_trans ((Nat.le_trans ((Nat.le_trans ((Nat.le_trans ((Nat.le_trans (hu10.out.size) hs19.out.size)) hs31.out.size)) hs43.out.size)) hu50.out.size)) hu53.out.size))) lbb54.out)))
    refine wpList_nil ?_
    refine wrapQ_k ?_
    refine late_consT ⟨h220, h221, True.intro⟩ ?_
    have hB0 := h218
    have cl0 := hB0.cell (o := 0) rfl
    have fr0 := hB0.free 0
    have cl1 := hB0.cell (o := 1) rfl
    have fr1 := hB0.free 1
    refine step_store (b := b8) (cs' := [.int .i64 x85, .int .i64 x86]) (T := 30) (W' := ((w212.setCell ⟨b8, 0, none⟩ (.int .i64 x85)).setCell ⟨b8, 1, none⟩ (.int .i64 x86))) rfl rfl (by go_simp <;> rfl) (((Sto.refl _ _).setCell 0 _).setCell 1 _) (((hB0).setCell 0 _).setCell 1 _) ?_
    clear hB0 cl0 fr0 cl1 fr1
    intro w222 hs hb224
    have hs223 := Aside0.mk hs
    clear hs
    have h225 := h215.sto hs223.out (Nat.ne_of_lt (Nat.lt_of_lt_of_le (Nat.lt_of_lt_of_le ltba0.out ((Nat.le_trans (hu4.out.size) hu7.out.size))) lbb8.out))
    have h226 := Rd.sto (c := 0) h216 hs223.out (fun k hk hp => Nat.ne_of_lt (Nat.lt_of_lt_of_le (ha0_0.blk_lt hp k hk) ((Nat.le_trans ((Nat.le_trans (hu4.out.size) hu7.out.size)) lbb8.out))))
    have h227 := h217.sto hs223.out (Nat.ne_of_lt (Nat.lt_of_lt_of_le (Nat.lt_of_lt_of_le ltb2.out (hu7.out.size)) lbb8.out))
    have h228 := hb214.sto hs223.out (Nat.ne_of_lt (Nat.lt_of_lt_of_le ltb5.out lbb8.out))
    have h229 := h219.sto hs223.out (Ne.symm (Nat.ne_of_lt (Nat.lt_of_lt_of_le (Nat.lt_of_lt_of_le ltb8.out ((Nat.le_trans ((Nat.le_trans (hs19.out.size) hs31.out.size)) hs43.out.size))) lbb48.out)))
    have h230 := h220.sto hs223.out (Ne.symm (Nat.ne_of_lt (Nat.lt_of_lt_of_le (Nat.lt_of_lt_of_le ltb8.out ((Nat.le_trans ((Nat.le_trans ((Nat.le_trans (hs19.out.size) hs31.out.size)) hs43.out.size)) hu50.out.size))) lbb51.out)))
    have h231 := h221.sto hs223.out (Ne.symm (Nat.ne_of_lt (Nat.lt_of_lt_of_le (Nat.lt_of_lt_of_le ltb8.out ((Nat.le_trans ((Nat.le_trans ((Nat.le_trans ((Nat.le_trans (hs19.out.size) hs31.out.size)) hs43.out.size)) hu50.out.size)) hu53.out.size))) lbb54.out)))
    refine wpList_nil ?_
    refine wrapQ_k ?_
    refine late_nilT ⟨h230, h231, True.intro⟩ ?_
    (try simp only [Exit.then, Exit.inBlock, ↓reduceIte, Nat.reduceEqDiff])
    refine hK199 _ _ ?_
    refine wp_ret ?_
    (try simp only [Exit.then, Exit.inBlock, ↓reduceIte, Nat.reduceEqDiff])
    refine hQf _ _ _ ?_
    have cr0 := h227.cell (o := 0) rfl
    have cr1 := h227.cell (o := 1) rfl
    have cr2 := h228.cell (o := 0) rfl
    have cr3 := h228.cell (o := 1) rfl
    have cr4 := hb224.cell (o := 0) rfl
    have cr5 := hb224.cell (o := 1) rfl
    exact bodyPost_ret (v := .tuple #[.agg #[.int .i64 t12, .int .i64 t13], .agg #[.int .i64 x83, .int .i64 x84], .agg #[.int .i64 x85, .int .i64 x86]]) (by first | rfl | (simp [results, Try.results194, go_sem, cr0, cr1, cr2, cr3, cr4, cr5]; done) | (simp [results, Try.results194, go_sem, cr0, cr1, cr2, cr3, cr4, cr5]; rfl)) rfl ⟨rfl, h225, (Grow.sto_young (Grow.sto_young (Grow.sto_young (hu88.out.trans (Grow.up hu201.out)) hs203.out (Nat.le_trans (Nat.le_refl _) lbb2.out)) hs213.out (Nat.le_trans (hu4.out.size) lbb5.out)) hs223.out (Nat.le_trans ((Nat.le_trans (hu4.out.size) hu7.out.size)) lbb8.out))⟩
  rw [if_pos c106] at H
  replace H := Option.bind_eq_some_iff.mp H
  obtain ⟨t108, A109, H⟩ := H
  replace A109 := Aside0.mk A109
  try dsimp only at H
  try simp only [c106, Bool.not_true, Bool.not_false]
  refine wpList_step fun K_ h_ => ?_; go_simp; refine h_ _ _ ?_; clear h_ K_
  have cl0 := h96.cell (o := 0) rfl
  have cl1 := h96.cell (o := 1) rfl
  refine wpList_step fun K_ h_ => ?_; go_simp; refine h_ _ _ ?_; clear h_ K_
  clear cl0 cl1
  have cl0 := h97.cell (o := 0) rfl
  have cl1 := h97.cell (o := 1) rfl
  refine wpList_step fun K_ h_ => ?_; go_simp; refine h_ _ _ ?_; clear h_ K_
  clear cl0 cl1
  have cl0 := h98.cell (o := 0) rfl
  have cl1 := h98.cell (o := 1) rfl
  refine wpList_step fun K_ h_ => ?_; go_simp; refine h_ _ _ ?_; clear h_ K_
  clear cl0 cl1
  refine step_call rfl (by go_simp <;> rfl) (spec_l01Area.calls K a1 t12 t13 x83 x84 x85 x86 t108 w87  A109.out) ?_
  rintro e w110 ⟨rfl, hu⟩
  have hu111 := Aside0.mk hu
  clear hu
  refine ⟨_, rfl, ?_⟩
  simp only [Act.put, nm1, nm2, nm3, i64_w]
  refine wpList_step fun K_ h_ => ?_; go_simp; refine h_ _ _ ?_; clear h_ K_
  refine wpp fun K_ h_ => ?_; go_simp; refine h_ _ _ ?_; clear h_ K_
  refine wpList_nil ?_
  (try simp only [Exit.then, Exit.inBlock, ↓reduceIte, Nat.reduceEqDiff])
  refine hK105 _ _ ?_
  by_cases c112 : (t108 == 0) = true
  ·
   rw [if_pos c112] at H
   have c112n : (t108 != 0) = false := by rw [bne, c112]; rfl
   replace H := Option.bind_eq_some_iff.mp H
   obtain ⟨⟨t115, t116, t117, t118⟩, A119, H⟩ := H
   replace A119 := Aside0.mk A119
   try dsimp only at H
   replace H := Option.bind_eq_some_iff.mp H
   obtain ⟨⟨t140, t141, t142, t143⟩, A144, H⟩ := H
   replace A144 := Aside0.mk A144
   try dsimp only at H
   have HL165 := Aside0.mk H
   clear H
   try simp only [c112, c112n, Bool.not_true, Bool.not_false]
   refine wp_cond_true rfl ?_
   refine wp_skip ?_
   (try simp only [Exit.then, Exit.inBlock, ↓reduceIte, Nat.reduceEqDiff])
   refine hK104 _ _ ?_
   refine wp_seq_k (fun K113 hK113 => ?_)
   refine wp_block ?_
   refine wp_seq_k (fun K114 hK114 => ?_)
   refine wp_region_lit ?_
   refine wpp fun K_ h_ => ?_; go_simp; refine h_ _ _ ?_; clear h_ K_
   refine wpp fun K_ h_ => ?_; go_simp; refine h_ _ _ ?_; clear h_ K_
   refine step_call (wanted_none rfl) (by go_simp <;> rfl) (spec_l01DrawPoint.calls K ba0 a0_0_A a0_0_c a0_0 x75 x76 a1 t115 t116 t117 t118 w110 (h92.up hu111.out) (h91.up hu111.out) haa0_0 A119.out) ?_
   rintro e w120 ⟨rfl, h121, hs⟩
   have hs122 := Aside0.mk hs
   clear hs
   have h123 := (h91.up hu111.out).growp hs122.out haa0_0
   have h124 := (h93.up hu111.out).grow hs122.out (fun k hk e => (Nat.ne_of_lt (Nat.lt_of_lt_of_le ltba0.out lbb2.out)) ((Option.some.inj hk).trans e))
   have h125 := (h94.up hu111.out).grow hs122.out (fun k hk e => (Nat.ne_of_lt (Nat.lt_of_lt_of_le (Nat.lt_of_lt_of_le ltba0.out (hu4.out.size)) lbb5.out)) ((Option.some.inj hk).trans e))
   have h126 := (h95.up hu111.out).grow hs122.out (fun k hk e => (Nat.ne_of_lt (Nat.lt_of_lt_of_le (Nat.lt_of_lt_of_le ltba0.out ((Nat.le_trans (hu4.out.size) hu7.out.size))) lbb8.out)) ((Option.some.inj hk).trans e))
   have h127 := (h96.up hu111.out).grow hs122.out (fun k hk e => (Nat.ne_of_lt (Nat.lt_of_lt_of_le (Nat.lt_of_lt_of_le ltba0.out ((Nat.le_trans ((Nat.le_trans ((Nat.le_trans ((Nat.le_trans ((Nat.le_trans (hu4.out.size) hu7.out.size)) hu10.out.size)) hs19.out.size)) hs31.out.size)) hs43.out.size))) lbb48.out)) ((Option.some.inj hk).trans e))
   have h128 := (h97.up hu111.out).grow hs122.out (fun k hk e => (Nat.ne_of_lt (Nat.lt_of_lt_of_le (Nat.lt_of_lt_of_le ltba0.out ((Nat.le_trans ((Nat.le_trans ((Nat.le_trans ((Nat.le_trans ((Nat.le_trans ((Nat.le_trans (hu4.out.size) hu7.out.size)) hu10.out.size)) hs19.out.size)) hs31.out.size)) hs43.out.size)) hu50.out.size))) lbb51.out)) ((Option.some.inj hk).trans e))
   have h129 := (h98.up hu111.out).grow hs122.out (fun k hk e => (Nat.ne_of_lt (Nat.lt_of_lt_of_le (Nat.lt_of_lt_of_le ltba0.out ((Nat.le_trans ((Nat.le_trans ((Nat.le_trans ((Nat.le_trans ((Nat.le_trans ((Nat.le_trans ((Nat.le_trans (hu4.out.size) hu7.out.size)) hu10.out.size)) hs19.out.size)) hs31.out.size)) hs43.out.size)) hu50.out.size)) hu53.out.size))) lbb54.out)) ((Option.some.inj hk).trans e))
   refine ⟨_, rfl, ?_⟩
   simp only [Act.put, nm1, nm2, nm3, i64_w]
   have hB0 := h128
   have cl0 := hB0.cell (o := 0) rfl
   have fr0 := hB0.free 0
   have cl1 := hB0.cell (o := 1) rfl
   have fr1 := hB0.free 1
   refine step_store (b := b51) (cs' := [.int .i64 t115, .int .i64 t116]) (T := 30) (W' := ((w120.setCell ⟨b51, 0, none⟩ (.int .i64 t115)).setCell ⟨b51, 1, none⟩ (.int .i64 t116))) rfl rfl (by go_simp <;> rfl) (((Sto.refl _ _).setCell 0 _).setCell 1 _) (((hB0).setCell 0 _).setCell 1 _) ?_
   clear hB0 cl0 fr0 cl1 fr1
   intro w130 hs hb132
   have hs131 := Aside0.mk hs
   clear hs
   have h133 := h121.sto hs131.out (Nat.ne_of_lt (Nat.lt_of_lt_of_le (Nat.lt_of_lt_of_le ltba0.out ((Nat.le_trans ((Nat.le_trans ((Nat.le_trans ((Nat.le_trans ((Nat.le_trans ((Nat.le_trans (hu4.out.size) hu7.out.size)) hu10.out.size)) hs19.out.size)) hs31.out.size)) hs43.out.size)) hu50.out.size))) lbb51.out))
   have h134 := Rd.sto (c := 0) h123 hs131.out (fun k hk hp => Nat.ne_of_lt (Nat.lt_of_lt_of_le (ha0_0.blk_lt hp k hk) ((Nat.le_trans ((Nat.le_trans ((Nat.le_trans ((Nat.le_trans ((Nat.le_trans ((Nat.le_trans ((Nat.le_trans (hu4.out.size) hu7.out.size)) hu10.out.size)) hs19.out.size)) hs31.out.size)) hs43.out.size)) hu50.out.size)) lbb51.out))))
   have h135 := h124.sto hs131.out (Nat.ne_of_lt (Nat.lt_of_lt_of_le (Nat.lt_of_lt_of_le ltb2.out ((Nat.le_trans ((Nat.le_trans ((Nat.le_trans ((Nat.le_trans ((Nat.le_trans (hu7.out.size) hu10.out.size)) hs19.out.size)) hs31.out.size)) hs43.out.size)) hu50.out.size))) lbb51.out))
   have h136 := h125.sto hs131.out (Nat.ne_of_lt (Nat.lt_of_lt_of_le (Nat.lt_of_lt_of_le ltb5.out ((Nat.le_trans ((Nat.le_trans ((Nat.le_trans ((Nat.le_trans (hu10.out.size) hs19.out.size)) hs31.out.size)) hs43.out.size)) hu50.out.size))) lbb51.out))
   have h137 := h126.sto hs131.out (Nat.ne_of_lt (Nat.lt_of_lt_of_le (Nat.lt_of_lt_of_le ltb8.out ((Nat.le_trans ((Nat.le_trans ((Nat.le_trans (hs19.out.size) hs31.out.size)) hs43.out.size)) hu50.out.size))) lbb51.out))
   have h138 := h127.sto hs131.out (Nat.ne_of_lt (Nat.lt_of_lt_of_le ltb48.out lbb51.out))
   have h139 := h129.sto hs131.out (Ne.symm (Nat.ne_of_lt (Nat.lt_of_lt_of_le ltb51.out lbb54.out)))
   refine wpList_nil ?_
   (try simp only [Exit.then, Exit.inBlock, ↓reduceIte, Nat.reduceEqDiff])
   refine hK114 _ _ ?_
   refine wp_region_lit ?_
   refine wpp fun K_ h_ => ?_; go_simp; refine h_ _ _ ?_; clear h_ K_
   refine wpp fun K_ h_ => ?_; go_simp; refine h_ _ _ ?_; clear h_ K_
   refine step_call (wanted_none rfl) (by go_simp <;> rfl) (spec_l01DrawPoint.calls K ba0 a0_0_A a0_0_c a0_0 t117 t118 a1 t140 t141 t142 t143 w130 h133 h134 haa0_0 A144.out) ?_
   rintro e w145 ⟨rfl, h146, hs⟩
   have hs147 := Aside0.mk hs
   clear hs
   have h148 := h134.growp hs147.out haa0_0
   have h149 := h135.grow hs147.out (fun k hk e => (Nat.ne_of_lt (Nat.lt_of_lt_of_le ltba0.out lbb2.out)) ((Option.some.inj hk).trans e))
   have h150 := h136.grow hs147.out (fun k hk e => (Nat.ne_of_lt (Nat.lt_of_lt_of_le (Nat.lt_of_lt_of_le ltba0.out (hu4.out.size)) lbb5.out)) ((Option.some.inj hk).trans e))
   have h151 := h137.grow hs147.out (fun k hk e => (Nat.ne_of_lt (Nat.lt_of_lt_of_le (Nat.lt_of_lt_of_le ltba0.out ((Nat.le_trans (hu4.out.size) hu7.out.size))) lbb8.out)) ((Option.some.inj hk).trans e))
   have h152 := h138.grow hs147.out (fun k hk e => (Nat.ne_of_lt (Nat.lt_of_lt_of_le (Nat.lt_of_lt_of_le ltba0.out ((Nat.le_trans ((Nat.le_trans ((Nat.le_trans ((Nat.le_trans ((Nat.le_trans (hu4.out.size) hu7.out.size)) hu10.out.size)) hs19.out.size)) hs31.out.size)) hs43.out.size))) lbb48.out)) ((Option.some.inj hk).trans e))
   have h153 := hb132.grow hs147.out (fun k hk e => (Nat.ne_of_lt (Nat.lt_of_lt_of_le (Nat.lt_of_lt_of_le ltba0.out ((Nat.le_trans ((Nat.le_trans ((Nat.le_trans ((Nat.le_trans ((Nat.le_trans ((Nat.le_trans (hu4.out.size) hu7.out.size)) hu10.out.size)) hs19.out.size)) hs31.out.size)) hs43.out.size)) hu50.out.size))) lbb51.out)) ((Option.some.inj hk).trans e))
   have h154 := h139.grow hs147.out (fun k hk e => (Nat.ne_of_lt (Nat.lt_of_lt_of_le (Nat.lt_of_lt_of_le ltba0.out ((Nat.le_trans ((Nat.le_trans ((Nat.le_trans ((Nat.le_trans ((Nat.le_trans ((Nat.le_trans ((Nat.le_trans (hu4.out.size) hu7.out.size)) hu10.out.size)) hs19.out.size)) hs31.out.size)) hs43.out.size)) hu50.out.size)) hu53.out.size))) lbb54.out)) ((Option.some.inj hk).trans e))
   refine ⟨_, rfl, ?_⟩
   simp only [Act.put, nm1, nm2, nm3, i64_w]
   have hB0 := h154
   have cl0 := hB0.cell (o := 0) rfl
   have fr0 := hB0.free 0
   have cl1 := hB0.cell (o := 1) rfl
   have fr1 := hB0.free 1
   refine step_store (b := b54) (cs' := [.int .i64 t140, .int .i64 t141]) (T := 30) (W' := ((w145.setCell ⟨b54, 0, none⟩ (.int .i64 t140)).setCell ⟨b54, 1, none⟩ (.int .i64 t141))) rfl rfl (by go_simp <;> rfl) (((Sto.refl _ _).setCell 0 _).setCell 1 _) (((hB0).setCell 0 _).setCell 1 _) ?_
   clear hB0 cl0 fr0 cl1 fr1
   intro w155 hs hb157
   have hs156 := Aside0.mk hs
   clear hs
   have h158 := h146.sto hs156.out (Nat.ne_of_lt (Nat.lt_of_lt_of_le (Nat.lt_of_lt_of_le ltba0.out ((Nat.le_trans ((Nat.le_trans ((Nat.le_trans ((Nat.le_trans ((Nat.le_trans ((Nat.le_trans ((Nat.le_trans (hu4.out.size) hu7.out.size)) hu10.out.size)) hs19.out.size)) hs31.out.size)) hs43.out.size)) hu50.out.size)) hu53.out.size))) lbb54.out))
   have h159 := Rd.sto (c := 0) h148 hs156.out (fun k hk hp => Nat.ne_of_lt (Nat.lt_of_lt_of_le (ha0_0.blk_lt hp k hk) ((Nat.le_trans ((Nat.le_trans ((Nat.le_trans ((Nat.le_trans ((Nat.le_trans ((Nat.le_trans ((Nat.le_trans ((Nat.le_trans (hu4.out.size) hu7.out.size)) hu10.out.size)) hs19.out.size)) hs31.out.size)) hs43.out.size)) hu50.out.size)) hu53.out.size)) lbb54.out))))
   have h160 := h149.sto hs156.out (Nat.ne_of_lt (Nat.lt_of_lt_of_le (Nat.lt_of_lt_of_le ltb2.out ((Nat.le_trans ((Nat.le_trans ((Nat.le_trans ((Nat.le_trans ((Nat.le_trans ((Nat.le_trans (hu7.out.size) hu10.out.size)) hs19.out.size)) hs31.out.size)) hs43.out.size)) hu50.out.size)) hu53.out.size))) lbb54.out))
   have h161 := h150.sto hs156.out (Nat.ne_of_lt (Nat.lt_of_lt_of_le (Nat.lt_of_lt_of_le ltb5.out ((Nat.le_trans ((Nat.le_trans ((Nat.le_trans ((Nat.le_trans ((Nat.le_trans (hu10.out.size) hs19.out.size)) hs31.out.size)) hs43.out.size)) hu50.out.size)) hu53.out.size))) lbb54.out))
   have h162 := h151.sto hs156.out (Nat.ne_of_lt (Nat.lt_of_lt_of_le (Nat.lt_of_lt_of_le ltb8.out ((Nat.le_trans ((Nat.le_trans ((Nat.le_trans ((Nat.le_trans (hs19.out.size) hs31.out.size)) hs43.out.size)) hu50.out.size)) hu53.out.size))) lbb54.out))
   have h163 := h152.sto hs156.out (Nat.ne_of_lt (Nat.lt_of_lt_of_le (Nat.lt_of_lt_of_le ltb48.out (hu53.out.size)) lbb54.out))
   have h164 := h153.sto hs156.out (Nat.ne_of_lt (Nat.lt_of_lt_of_le ltb51.out lbb54.out))
   refine wpList_nil ?_
   (try simp only [Exit.then, Exit.inBlock, ↓reduceIte, Nat.reduceEqDiff])
   refine hK113 _ _ ?_
   refine wp_region_lit ?_
   refine wpp fun K_ h_ => ?_; go_simp; refine h_ _ _ ?_; clear h_ K_
   refine wpp fun K_ h_ => ?_; go_simp; refine h_ _ _ ?_; clear h_ K_
   refine wpp fun K_ h_ => ?_; go_simp; refine h_ _ _ ?_; clear h_ K_
   refine wpList_nil ?_
   (try simp only [Exit.then, Exit.inBlock, ↓reduceIte, Nat.reduceEqDiff])
   refine hK103 _ _ ?_
   go_roundg k99
   case measure => exact Nat.lt_succ_self _
   case rel => exact ⟨wrap64 (x74 + 1), t142, t143, x77, x78, x79, x80, x81, x82, t115, t116, t140, t141, (by first | rfl | simp), HL165, ⟨by have := hk100.out; omega⟩, ⟨(Grow.sto_young ((Grow.sto_young ((hu88.out.trans (Grow.up hu111.out)).trans hs122.out) hs131.out (Nat.le_trans ((Nat.le_trans ((Nat.le_trans ((Nat.le_trans ((Nat.le_trans ((Nat.le_trans ((Nat.le_trans (hu4.out.size) hu7.out.size)) hu10.out.size)) hs19.out.size)) hs31.out.size)) hs43.out.size)) hu50.out.size)) lbb51.out)).trans hs147.out) hs156.out (Nat.le_trans ((Nat.le_trans ((Nat.le_trans ((Nat.le_trans ((Nat.le_trans ((Nat.le_trans ((Nat.le_trans ((Nat.le_trans (hu4.out.size) hu7.out.size)) hu10.out.size)) hs19.out.size)) hs31.out.size)) hs43.out.size)) hu50.out.size)) hu53.out.size)) lbb54.out))⟩, ⟨(Nat.le_trans ((Nat.le_trans ((Nat.le_trans ((Nat.le_trans ((Nat.le_trans ((Nat.le_trans (Nat.le_refl _) hz89.out)) hu111.out.size)) hs122.out.size)) (Nat.le_of_eq hs131.out.size.symm))) hs147.out.size)) (Nat.le_of_eq hs156.out.size.symm))⟩, h159, h158, h160, h161, h162, h163, h164, hb157⟩
  rw [if_neg c112] at H; replace c112 := Bool.eq_false_iff.mpr c112
  have c112n : (t108 != 0) = true := by rw [bne, c112]; rfl
  have c112p : ¬ t108 = 0 := fun e => by simp [e] at c112
  simp only [Option.some.injEq, Prod.mk.injEq] at H
  obtain ⟨rfl, rfl, rfl, rfl, rfl, rfl, rfl, rfl⟩ := H
  try simp only [c112, c112n, Bool.not_true, Bool.not_false]
  refine wp_cond_false rfl ?_
  refine wp_exit ?_
  (try simp only [Exit.then, Exit.inBlock, ↓reduceIte, Nat.reduceEqDiff])
  refine hK72 _ _ ?_
  refine wp_seq_k (fun K166 hK166 => ?_)
  have hTT_ : ∀ w_, Up (World.drew w110) w_ → (fun w_ => Blk w_ b51 [.int .i64 x83, .int .i64 x84] 30 ∧ Blk w_ b54 [.int .i64 x85, .int .i64 x86] 30 ∧ True) w_ := fun w_ hu_ => ⟨(h97.up hu111.out).up ((Up.refl _).drew.trans hu_), (h98.up hu111.out).up ((Up.refl _).drew.trans hu_), True.intro⟩
  refine' wp_region_pure (fun w_ => Blk w_ b51 [.int .i64 x83, .int .i64 x84] 30 ∧ Blk w_ b54 [.int .i64 x85, .int .i64 x86] 30 ∧ True) 3 [1, 2] [Slot.det _, Slot.pur _, Slot.pur _] (by kernel_rfl) [false, true, true] (by kernel_rfl) rfl (by kernel_rfl) (by decide) hTT_ ?main
  case main =>
   simp only [List.take_succ_cons, List.take_zero]
   refine wpK_ops rfl (fun w1 hu => ?_) ?_
   · have cl0 := ((h96.up hu111.out).up ((Up.refl _).drew.trans hu)).cell (o := 0) rfl
     have cl1 := ((h96.up hu111.out).up ((Up.refl _).drew.trans hu)).cell (o := 1) rfl
     go_simp
     first | done | rfl
   simp only [Act.put, nm1, nm2, nm3, i64_w]
   refine wpK_pur rfl hTT_ (fun w1 hT => ?_) ?_
   · have hB_ := hT.1
     have cl0 := hB_.cell (o := 0) rfl
     have cl1 := hB_.cell (o := 1) rfl
     clear hT
     go_simp
     first | done | rfl
   simp only [Act.put, nm1, nm2, nm3, i64_w]
   refine wpK_pur rfl hTT_ (fun w1 hT => ?_) ?_
   · have hB_ := hT.2.1
     have cl0 := hB_.cell (o := 0) rfl
     have cl1 := hB_.cell (o := 1) rfl
     clear hT
     go_simp
     first | done | rfl
   simp only [Act.put, nm1, nm2, nm3, i64_w]
   refine wpK_nil ?_
   intro w167 hu hap
   simp only [List.drop_succ_cons, List.drop_zero]
   replace hu := (Up.refl _).drew.trans hu
   clear hap
   have hu168 := Aside0.mk hu
   clear hu
   refine late_consT ⟨(h97.up (hu111.out.trans hu168.out)), (h98.up (hu111.out.trans hu168.out)), True.intro⟩ ?_
   have hB0 := (h93.up (hu111.out.trans hu168.out))
   have cl0 := hB0.cell (o := 0) rfl
   have fr0 := hB0.free 0
   have cl1 := hB0.cell (o := 1) rfl
   have fr1 := hB0.free 1
   refine step_store (b := b2) (cs' := [.int .i64 t12, .int .i64 t13]) (T := 30) (W' := ((w167.setCell ⟨b2, 0, none⟩ (.int .i64 t12)).setCell ⟨b2, 1, none⟩ (.int .i64 t13))) rfl rfl (by go_simp <;> rfl) (((Sto.refl _ _).setCell 0 _).setCell 1 _) (((hB0).setCell 0 _).setCell 1 _) ?_
   clear hB0 cl0 fr0 cl1 fr1
   intro w169 hs hb171
   have hs170 := Aside0.mk hs
   clear hs
   have h172 := (h92.up (hu111.out.trans hu168.out)).sto hs170.out (Nat.ne_of_lt (Nat.lt_of_lt_of_le ltba0.out lbb2.out))
   have h173 := Rd.sto (c := 0) (h91.up (hu111.out.trans hu168.out)) hs170.out (fun k hk hp => Nat.ne_of_lt (Nat.lt_of_lt_of_le (ha0_0.blk_lt hp k hk) (lbb2.out)))
   have h174 := (h94.up (hu111.out.trans hu168.out)).sto hs170.out (Ne.symm (Nat.ne_of_lt (Nat.lt_of_lt_of_le ltb2.out lbb5.out)))
   have h175 := (h95.up (hu111.out.trans hu168.out)).sto hs170.out (Ne.symm (Nat.ne_of_lt (Nat.lt_of_lt_of_le (Nat.lt_of_lt_of_le ltb2.out (hu7.out.size)) lbb8.out)))
   have h176 := (h96.up (hu111.out.trans hu168.out)).sto hs170.out (Ne.symm (Nat.ne_of_lt (Nat.lt_of_lt_of_le (Nat.lt_of_lt_of_le ltb2.out ((Nat.le_trans ((Nat.le_trans ((Nat.le_trans ((Nat.le_trans (hu7.out.size) hu10.out.size)) hs19.out.size)) hs31.out.size)) hs43.out.size))) lbb48.out)))
   have h177 := (h97.up (hu111.out.trans hu168.out)).sto hs170.out (Ne.symm (Nat.ne_of_lt (Nat.lt_of_lt_of_le (Nat.lt_of_lt_of_le ltb2.out ((Nat.le_trans ((Nat.le_trans ((Nat.le_trans ((Nat.le_trans ((Nat.le_trans (hu7.out.size) hu10.out.size)) hs19.out.size)) hs31.out.size)) hs43.out.size)) hu50.out.size))) lbb51.out)))
   have h178 := (h98.up (hu111.out.trans hu168.out)).sto hs170.out (Ne.symm (Nat.ne_of_lt (Nat.lt_of_lt_of_le (Nat.lt_of_lt_of_le ltb2.out ((Nat.le_trans ((Nat.le_trans ((Nat.le_trans ((Nat.le_trans ((Nat.le_trans ((Nat.le_trans (hu7.out.size) hu10.out.size)) hs19.out.size)) hs31.out.size)) hs43.out.size)) hu50.out.size)) hu53.out.size))) lbb54.out)))
   refine wpList_nil ?_
   refine wrapQ_k ?_
   refine late_consT ⟨h177, h178, True.intro⟩ ?_
   have hB0 := h174
   have cl0 := hB0.cell (o := 0) rfl
   have fr0 := hB0.free 0
   have cl1 := hB0.cell (o := 1) rfl
   have fr1 := hB0.free 1
   refine step_store (b := b5) (cs' := [.int .i64 x83, .int .i64 x84]) (T := 30) (W' := ((w169.setCell ⟨b5, 0, none⟩ (.int .i64 x83)).setCell ⟨b5, 1, none⟩ (.int .i64 x84))) rfl rfl (by go_simp <;> rfl) (((Sto.refl _ _).setCell 0 _).setCell 1 _) (((hB0).setCell 0 _).setCell 1 _) ?_
   clear hB0 cl0 fr0 cl1 fr1
   intro w179 hs hb181
   have hs180 := Aside0.mk hs
   clear hs
   have h182 := h172.sto hs180.out (Nat.ne_of_lt (Nat.lt_of_lt_of_le (Nat.lt_of_lt_of_le ltba0.out (hu4.out.size)) lbb5.out))
   have h183 := Rd.sto (c := 0) h173 hs180.out (fun k hk hp => Nat.ne_of_lt (Nat.lt_of_lt_of_le (ha0_0.blk_lt hp k hk) ((Nat.le_trans (hu4.out.size) lbb5.out))))
   have h184 := hb171.sto hs180.out (Nat.ne_of_lt (Nat.lt_of_lt_of_le ltb2.out lbb5.out))
   have h185 := h175.sto hs180.out (Ne.symm (Nat.ne_of_lt (Nat.lt_of_lt_of_le ltb5.out lbb8.out)))
   have h186 := h176.sto hs180.out (Ne.symm (Nat.ne_of_lt (Nat.lt_of_lt_of_le (Nat.lt_of_lt_of_le ltb5.out ((Nat.le_trans ((Nat.le_trans ((Nat.le_trans (hu10.out.size) hs19.out.size)) hs31.out.size)) hs43.out.size))) lbb48.out)))
   have h187 := h177.sto hs180.out (Ne.symm (Nat.ne_of_lt (Nat.lt_of_lt_of_le (Nat.lt_of_lt_of_le ltb5.out ((Nat.le_trans ((Nat.le_trans ((Nat.le_trans ((Nat.le_trans (hu10.out.size) hs19.out.size)) hs31.out.size)) hs43.out.size)) hu50.out.size))) lbb51.out)))
   have h188 := h178.sto hs180.out (Ne.symm (Nat.ne_of_lt (Nat.lt_of_lt_of_le (Nat.lt_of_lt_of_le ltb5.out ((Nat.le_trans ((Nat.le_trans ((Nat.le_trans ((Nat.le_trans ((Nat.le_trans (hu10.out.size) hs19.out.size)) hs31.out.size)) hs43.out.size)) hu50.out.size)) hu53.out.size))) lbb54.out)))
   refine wpList_nil ?_
   refine wrapQ_k ?_
   refine late_consT ⟨h187, h188, True.intro⟩ ?_
   have hB0 := h185
   have cl0 := hB0.cell (o := 0) rfl
   have fr0 := hB0.free 0
   have cl1 := hB0.cell (o := 1) rfl
   have fr1 := hB0.free 1
   refine step_store (b := b8) (cs' := [.int .i64 x85, .int .i64 x86]) (T := 30) (W' := ((w179.setCell ⟨b8, 0, none⟩ (.int .i64 x85)).setCell ⟨b8, 1, none⟩ (.int .i64 x86))) rfl rfl (by go_simp <;> rfl) (((Sto.refl _ _).setCell 0 _).setCell 1 _) (((hB0).setCell 0 _).setCell 1 _) ?_
   clear hB0 cl0 fr0 cl1 fr1
   intro w189 hs hb191
   have hs190 := Aside0.mk hs
   clear hs
   have h192 := h182.sto hs190.out (Nat.ne_of_lt (Nat.lt_of_lt_of_le (Nat.lt_of_lt_of_le ltba0.out ((Nat.le_trans (hu4.out.size) hu7.out.size))) lbb8.out))
   have h193 := Rd.sto (c := 0) h183 hs190.out (fun k hk hp => Nat.ne_of_lt (Nat.lt_of_lt_of_le (ha0_0.blk_lt hp k hk) ((Nat.le_trans ((Nat.le_trans (hu4.out.size) hu7.out.size)) lbb8.out))))
   have h194 := h184.sto hs190.out (Nat.ne_of_lt (Nat.lt_of_lt_of_le (Nat.lt_of_lt_of_le ltb2.out (hu7.out.size)) lbb8.out))
   have h195 := hb181.sto hs190.out (Nat.ne_of_lt (Nat.lt_of_lt_of_le ltb5.out lbb8.out))
   have h196 := h186.sto hs190.out (Ne.symm (Nat.ne_of_lt (Nat.lt_of_lt_of_le (Nat.lt_of_lt_of_le ltb8.out ((Nat.le_trans ((Nat.le_trans (hs19.out.size) hs31.out.size)) hs43.out.size))) lbb48.out)))
   have h197 := h187.sto hs190.out (Ne.symm (Nat.ne_of_lt (Nat.lt_of_lt_of_le (Nat.lt_of_lt_of_le ltb8.out ((Nat.le_trans ((Nat.le_trans ((Nat.le_trans (hs19.out.size) hs31.out.size)) hs43.out.size)) hu50.out.size))) lbb51.out)))
   have h198 := h188.sto hs190.out (Ne.symm (Nat.ne_of_lt (Nat.lt_of_lt_of_le (Nat.lt_of_lt_of_le ltb8.out ((Nat.le_trans ((Nat.le_trans ((Nat.le_trans ((Nat.le_trans (hs19.out.size) hs31.out.size)) hs43.out.size)) hu50.out.size)) hu53.out.size))) lbb54.out)))
   refine wpList_nil ?_
   refine wrapQ_k ?_
   refine late_nilT ⟨h197, h198, True.intro⟩ ?_
   (try simp only [Exit.then, Exit.inBlock, ↓reduceIte, Nat.reduceEqDiff])
   refine hK166 _ _ ?_
   refine wp_ret ?_
   (try simp only [Exit.then, Exit.inBlock, ↓reduceIte, Nat.reduceEqDiff])
   refine hQf _ _ _ ?_
   have cr0 := h194.cell (o := 0) rfl
   have cr1 := h194.cell (o := 1) rfl
   have cr2 := h195.cell (o := 0) rfl
   have cr3 := h195.cell (o := 1) rfl
   have cr4 := hb191.cell (o := 0) rfl
   have cr5 := hb191.cell (o := 1) rfl
   exact bodyPost_ret (v := .tuple #[.agg #[.int .i64 t12, .int .i64 t13], .agg #[.int .i64 x83, .int .i64 x84], .agg #[.int .i64 x85, .int .i64 x86]]) (by first | rfl | (simp [results, Try.results194, go_sem, cr0, cr1, cr2, cr3, cr4, cr5]; done) | (simp [results, Try.results194, go_sem, cr0, cr1, cr2, cr3, cr4, cr5]; rfl)) rfl ⟨rfl, h192, (Grow.sto_young (Grow.sto_young (Grow.sto_young ((hu88.out.trans (Grow.up hu111.out)).trans (Grow.up hu168.out)) hs170.out (Nat.le_trans (Nat.le_refl _) lbb2.out)) hs180.out (Nat.le_trans (hu4.out.size) lbb5.out)) hs190.out (Nat.le_trans ((Nat.le_trans (hu4.out.size) hu7.out.size)) lbb8.out))⟩

set_option maxHeartbeats 40000000 in
set_option maxRecDepth 100000 in
theorem spec_l02DrawColour.calls (K : Nat) (ba0 : Nat) (a0_0_A : Option Addr) (a0_0_c : Nat) (a0_0 : List (Int)) (a0_1 : Int) (a0_2 : Int) (r0 : Int) (r1 : Int) (r2 : Int) (w : World) (ha0 : Blk w ba0 [.slice a0_0_A a0_0.length a0_0_c, .int .i64 a0_1, .int .u64 a0_2] 158) (ha0_0 : Rd eU8 w a0_0_A a0_0) (haa0_0 : ∀ k, blk (.slice a0_0_A a0_0.length a0_0_c) = some k → 0 < a0_0.length → k ≠ ba0) (h : spec_l02DrawColour.f K a0_0 a0_1 a0_2 = some (r0, r1, r2)) :
    Calls Try.prog 191 #[.pointer (some ⟨ba0, 0, none⟩)] w fun e w' => e = .returned (.int .i64 r0) ∧ Blk w' ba0 [.slice a0_0_A a0_0.length a0_0_c, .int .i64 r1, .int .u64 r2] 158 ∧ Grow (.pointer (some ⟨ba0, 0, none⟩)) w w' := by
 have H : (((spec_l01Next.f K a0_0 a0_1 a0_2 40).bind fun (t4, t5, t6) => (if (t4 == 0) = true then ((spec_l01Pick.f K a0_0 t5 t6 ([(-1), 3, 1099511627776])).bind fun (t17, t18, t19) => some (t17, t18, t19)) else ((spec_l01Next.f K a0_0 t5 t6 3).bind fun (t27, t28, t29) => some (t27, t28, t29)))) : Option (Int × Int × Int)) = some (r0, r1, r2) := h
 clear h
 replace H := Option.bind_eq_some_iff.mp H
 obtain ⟨⟨t4, t5, t6⟩, A7, H⟩ := H
 replace A7 := Aside0.mk A7
 try dsimp only at H
 have ltba0 := Aside0.mk ha0.lt
 go_enter Try.func191, Try.ntmps191
 refine wp_hide (fun Qf hQf => ?_)
 refine wp_seq_k (fun K1 hK1 => ?_)
 refine wp_region_lit ?_
 refine wpp fun K_ h_ => ?_; go_simp; refine h_ _ _ ?_; clear h_ K_
 refine wpList_nil ?_
 (try simp only [Exit.then, Exit.inBlock, ↓reduceIte, Nat.reduceEqDiff])
 refine hK1 _ _ ?_
 refine wp_seq_k (fun K2 hK2 => ?_)
 refine wp_seq_k (fun K3 hK3 => ?_)
 refine wp_region_lit ?_
 refine wpp fun K_ h_ => ?_; go_simp; refine h_ _ _ ?_; clear h_ K_
 refine step_call (wanted_none rfl) (by go_simp <;> rfl) (spec_l01Next.calls K ba0 a0_0_A a0_0_c a0_0 a0_1 a0_2 40 t4 t5 t6 w ha0 ha0_0 haa0_0 A7.out) ?_
 rintro e w8 ⟨rfl, h9, hs⟩
 have hs10 := Aside0.mk hs
 clear hs
 have h11 := ha0_0.growp hs10.out haa0_0
 refine ⟨_, rfl, ?_⟩
 simp only [Act.put, nm1, nm2, nm3, i64_w]
 refine wpp fun K_ h_ => ?_; go_simp; refine h_ _ _ ?_; clear h_ K_
 refine wpList_nil ?_
 (try simp only [Exit.then, Exit.inBlock, ↓reduceIte, Nat.reduceEqDiff])
 refine hK3 _ _ ?_
 by_cases c12 : (t4 == 0) = true
 rotate_left
 ·
  rw [if_neg c12] at H; replace c12 := Bool.eq_false_iff.mpr c12
  have c12n : (t4 != 0) = true := by rw [bne, c12]; rfl
  have c12p : ¬ t4 = 0 := fun e => by simp [e] at c12
  replace H := Option.bind_eq_some_iff.mp H
  obtain ⟨⟨t27, t28, t29⟩, A30, H⟩ := H
  replace A30 := Aside0.mk A30
  try dsimp only at H
  simp only [Option.some.injEq, Prod.mk.injEq] at H
  obtain ⟨rfl, rfl, rfl⟩ := H
  try simp only [c12, c12n, Bool.not_true, Bool.not_false]
  refine wp_cond_false rfl ?_
  refine wp_skip ?_
  (try simp only [Exit.then, Exit.inBlock, ↓reduceIte, Nat.reduceEqDiff])
  refine hK2 _ _ ?_
  refine wp_seq_k (fun K26 hK26 => ?_)
  refine wp_region_lit ?_
  refine wpp fun K_ h_ => ?_; go_simp; refine h_ _ _ ?_; clear h_ K_
  refine step_call (wanted_none rfl) (by go_simp <;> rfl) (spec_l01Next.calls K ba0 a0_0_A a0_0_c a0_0 t5 t6 3 t27 t28 t29 w8 h9 h11 haa0_0 A30.out) ?_
  rintro e w31 ⟨rfl, h32, hs⟩
  have hs33 := Aside0.mk hs
  clear hs
  have h34 := h11.growp hs33.out haa0_0
  refine ⟨_, rfl, ?_⟩
  simp only [Act.put, nm1, nm2, nm3, i64_w]
  refine wpp fun K_ h_ => ?_; go_simp; refine h_ _ _ ?_; clear h_ K_
  refine wpList_nil ?_
  (try simp only [Exit.then, Exit.inBlock, ↓reduceIte, Nat.reduceEqDiff])
  refine hK26 _ _ ?_
  refine wp_ret ?_
  (try simp only [Exit.then, Exit.inBlock, ↓reduceIte, Nat.reduceEqDiff])
  refine hQf _ _ _ ?_
  exact bodyPost_ret (v := .int .i64 t27) (by first | rfl | (simp [results, Try.results191, go_sem]; done) | (simp [results, Try.results191, go_sem]; rfl)) rfl ⟨rfl, h32, (((Grow.refl (.pointer (some ⟨ba0, 0, none⟩)) _).trans hs10.out).trans hs33.out)⟩
 rw [if_pos c12] at H
 have c12n : (t4 != 0) = false := by rw [bne, c12]; rfl
 replace H := Option.bind_eq_some_iff.mp H
 obtain ⟨⟨t17, t18, t19⟩, A20, H⟩ := H
 replace A20 := Aside0.mk A20
 try dsimp only at H
 simp only [Option.some.injEq, Prod.mk.injEq] at H
 obtain ⟨rfl, rfl, rfl⟩ := H
 try simp only [c12, c12n, Bool.not_true, Bool.not_false]
 refine wp_cond_true rfl ?_
 refine wp_seq_k (fun K13 hK13 => ?_)
 refine wp_region_lit ?_
 refine wpp fun K_ h_ => ?_; go_simp; refine h_ _ _ ?_; clear h_ K_
 refine step_new (cs := [.int .i64 (-1), .int .i64 3, .int .i64 1099511627776]) (T := 2) (f := fun b => .slice (some ⟨b, 0, none⟩) 3 3) rfl (by go_simp <;> rfl) ?_
 intro b14 w15 hu lb hb14
 simp only [Act.put, nm1, nm2, nm3, i64_w]
 have lbb14 := Aside0.mk lb
 have ltb14 := Aside0.mk hb14.lt
 clear lb
 have hu16 := Aside0.mk hu
 clear hu
 refine step_call (wanted_none rfl) (by go_simp <;> rfl) (spec_l01Pick.calls K ba0 a0_0_A a0_0_c a0_0 t5 t6 (some ⟨b14, 0, none⟩) 3 ([(-1), 3, 1099511627776]) t17 t18 t19 w15 (h9.up hu16.out) (h11.up hu16.out) haa0_0 (Rd.of_blk (E := eI) (xs := [(-1), 3, 1099511627776]) (o := 0) hb14 (by simp) (fun j u hu => by rcases j with _ | _ | _ | j <;> simp_all [Enc.flat, eI])) (fun k hk hp e => (Ne.symm (Nat.ne_of_lt (Nat.lt_of_lt_of_le (Nat.lt_of_lt_of_le ltba0.out (hs10.out.size)) lbb14.out))) ((Option.some.inj hk).trans e)) A20.out) ?_
 rintro e w21 ⟨rfl, h22, hs⟩
 have hs23 := Aside0.mk hs
 clear hs
 have h24 := (h11.up hu16.out).growp hs23.out haa0_0
 have h25 := hb14.grow hs23.out (fun k hk e => (Nat.ne_of_lt (Nat.lt_of_lt_of_le (Nat.lt_of_lt_of_le ltba0.out (hs10.out.size)) lbb14.out)) ((Option.some.inj hk).trans e))
 refine ⟨_, rfl, ?_⟩
 simp only [Act.put, nm1, nm2, nm3, i64_w]
 refine wpp fun K_ h_ => ?_; go_simp; refine h_ _ _ ?_; clear h_ K_
 refine wpList_nil ?_
 (try simp only [Exit.then, Exit.inBlock, ↓reduceIte, Nat.reduceEqDiff])
 refine hK13 _ _ ?_
 refine wp_ret ?_
 (try simp only [Exit.then, Exit.inBlock, ↓reduceIte, Nat.reduceEqDiff])
 refine hQf _ _ _ ?_
 exact bodyPost_ret (v := .int .i64 t17) (by first | rfl | (simp [results, Try.results191, go_sem]; done) | (simp [results, Try.results191, go_sem]; rfl)) rfl ⟨rfl, h22, ((((Grow.refl (.pointer (some ⟨ba0, 0, none⟩)) _).trans hs10.out).trans (Grow.up hu16.out)).trans hs23.out)⟩

set_option maxHeartbeats 40000000 in
set_option maxRecDepth 100000 in
theorem spec_l01Plus.calls (K : Nat) (a0 : Int) (a1_0 : Int) (a1_1 : Int) (a2_0 : Int) (a2_1 : Int) (r0 : Int) (r1 : Int) (w : World)  (h : spec_l01Plus.f K a0 a1_0 a1_1 a2_0 a2_1 = some (r0, r1)) :
    Calls Try.prog 130 #[.int .i64 a0, .agg #[.int .i64 a1_0, .int .i64 a1_1], .agg #[.int .i64 a2_0, .int .i64 a2_1]] w fun e w' => e = .returned (.agg #[.int .i64 r0, .int .i64 r1]) ∧ Up w w' := by
 have H : (((spec_l01Mod.f K (wrap64 (a1_0 + a2_0)) a0).bind fun t12 => ((spec_l01Mod.f K (wrap64 (a1_1 + a2_1)) a0).bind fun t14 => some (t12, t14))) : Option (Int × Int)) = some (r0, r1) := h
 clear h
 replace H := Option.bind_eq_some_iff.mp H
 obtain ⟨t12, A13, H⟩ := H
 replace A13 := Aside0.mk A13
 try dsimp only at H
 replace H := Option.bind_eq_some_iff.mp H
 obtain ⟨t14, A15, H⟩ := H
 replace A15 := Aside0.mk A15
 try dsimp only at H
 simp only [Option.some.injEq, Prod.mk.injEq] at H
 obtain ⟨rfl, rfl⟩ := H
 go_enter Try.func130, Try.ntmps130
 refine wp_hide (fun Qf hQf => ?_)
 refine wp_seq_k (fun K1 hK1 => ?_)
 refine wp_region_lit ?_
 refine step_new (cs := [.int .i64 a1_0, .int .i64 a1_1]) (T := 30) (f := fun b => .pointer (some ⟨b, 0, none⟩)) rfl (by go_simp <;> rfl) ?_
 intro b2 w3 hu lb hb2
 simp only [Act.put, nm1, nm2, nm3, i64_w]
 have lbb2 := Aside0.mk lb
 have ltb2 := Aside0.mk hb2.lt
 clear lb
 have hu4 := Aside0.mk hu
 clear hu
 refine step_new (cs := [.int .i64 a2_0, .int .i64 a2_1]) (T := 30) (f := fun b => .pointer (some ⟨b, 0, none⟩)) rfl (by go_simp <;> rfl) ?_
 intro b5 w6 hu lb hb5
 simp only [Act.put, nm1, nm2, nm3, i64_w]
 have lbb5 := Aside0.mk lb
 have ltb5 := Aside0.mk hb5.lt
 clear lb
 have hu7 := Aside0.mk hu
 clear hu
 refine step_new (cs := [.int .i64 0, .int .i64 0]) (T := 30) (f := fun b => .pointer (some ⟨b, 0, none⟩)) rfl (by go_simp <;> rfl) ?_
 intro b8 w9 hu lb hb8
 simp only [Act.put, nm1, nm2, nm3, i64_w]
 have lbb8 := Aside0.mk lb
 have ltb8 := Aside0.mk hb8.lt
 clear lb
 have hu10 := Aside0.mk hu
 clear hu
 refine wpList_nil ?_
 (try simp only [Exit.then, Exit.inBlock, ↓reduceIte, Nat.reduceEqDiff])
 refine hK1 _ _ ?_
 refine wp_seq_k (fun K11 hK11 => ?_)
 refine' wp_region_up 15 [Slot.det _, Slot.det _, Slot.det _, Slot.det _, Slot.det _, Slot.det _, Slot.det (.int .i64 t12), Slot.det _, Slot.det _, Slot.det _, Slot.det _, Slot.det _, Slot.det _, Slot.det (.int .i64 t14), Slot.det _] (by kernel_rfl) (by kernel_rfl) ?main
 case main =>
  simp only [List.take_succ_cons, List.take_zero]
  refine wpK_ops rfl (fun w1 hu => ?_) ?_
  · clear hu
    go_simp
    first | done | rfl
  simp only [Act.put, nm1, nm2, nm3, i64_w]
  refine wpK_ops rfl (fun w1 hu => ?_) ?_
  · have cl0 := ((hb2.up (hu7.out.trans hu10.out)).up ((Up.refl _).drew.trans hu)).cell (o := 0) rfl
    go_simp
    first | done | rfl
  simp only [Act.put, nm1, nm2, nm3, i64_w]
  refine wpK_ops rfl (fun w1 hu => ?_) ?_
  · clear hu
    go_simp
    first | done | rfl
  simp only [Act.put, nm1, nm2, nm3, i64_w]
  refine wpK_ops rfl (fun w1 hu => ?_) ?_
  · have cl0 := ((hb5.up hu10.out).up ((Up.refl _).drew.trans hu)).cell (o := 0) rfl
    go_simp
    first | done | rfl
  simp only [Act.put, nm1, nm2, nm3, i64_w]
  refine wpK_ops rfl (fun w1 hu => ?_) ?_
  · clear hu
    go_simp
    first | done | rfl
  simp only [Act.put, nm1, nm2, nm3, i64_w]
  refine wpK_ops rfl (fun w1 hu => ?_) ?_
  · clear hu
    go_simp
    first | done | rfl
  simp only [Act.put, nm1, nm2, nm3, i64_w]
  refine wpK_ops rfl (fun w1 hu => ?_) ?_
  · have hcl := (spec_l01Mod.calls K (wrap64 (a1_0 + a2_0)) a0 t12 w1  A13.out)
    clear hu
    replace hcl := Aside0.mk hcl
    go_simp
    exact hcl.out
  simp only [Act.put, nm1, nm2, nm3, i64_w]
  refine wpK_ops rfl (fun w1 hu => ?_) ?_
  · clear hu
    go_simp
    first | done | rfl
  simp only [Act.put, nm1, nm2, nm3, i64_w]
  refine wpK_ops rfl (fun w1 hu => ?_) ?_
  · have cl0 := ((hb2.up (hu7.out.trans hu10.out)).up ((Up.refl _).drew.trans hu)).cell (o := 1) rfl
    go_simp
    first | done | rfl
  simp only [Act.put, nm1, nm2, nm3, i64_w]
  refine wpK_ops rfl (fun w1 hu => ?_) ?_
  · clear hu
    go_simp
    first | done | rfl
  simp only [Act.put, nm1, nm2, nm3, i64_w]
  refine wpK_ops rfl (fun w1 hu => ?_) ?_
  · have cl0 := ((hb5.up hu10.out).up ((Up.refl _).drew.trans hu)).cell (o := 1) rfl
    go_simp
    first | done | rfl
  simp only [Act.put, nm1, nm2, nm3, i64_w]
  refine wpK_ops rfl (fun w1 hu => ?_) ?_
  · clear hu
    go_simp
    first | done | rfl
  simp only [Act.put, nm1, nm2, nm3, i64_w]
  refine wpK_ops rfl (fun w1 hu => ?_) ?_
  · clear hu
    go_simp
    first | done | rfl
  simp only [Act.put, nm1, nm2, nm3, i64_w]
  refine wpK_ops rfl (fun w1 hu => ?_) ?_
  · have hcl := (spec_l01Mod.calls K (wrap64 (a1_1 + a2_1)) a0 t14 w1  A15.out)
    clear hu
    replace hcl := Aside0.mk hcl
    go_simp
    exact hcl.out
  simp only [Act.put, nm1, nm2, nm3, i64_w]
  refine wpK_ops rfl (fun w1 hu => ?_) ?_
  · clear hu
    go_simp
    first | done | rfl
  simp only [Act.put, nm1, nm2, nm3, i64_w]
  refine wpK_nil ?_
  intro w16 hu hap
  simp only [List.drop_succ_cons, List.drop_zero]
  replace hu := (Up.refl _).drew.trans hu
  clear hap
  have hu17 := Aside0.mk hu
  clear hu
  have hB0 := (hb8.up hu17.out)
  have cl0 := hB0.cell (o := 0) rfl
  have fr0 := hB0.free 0
  have cl1 := hB0.cell (o := 1) rfl
  have fr1 := hB0.free 1
  refine step_store (b := b8) (cs' := [.int .i64 t12, .int .i64 t14]) (T := 30) (W' := ((w16.setCell ⟨b8, 0, none⟩ (.int .i64 t12)).setCell ⟨b8, 1, none⟩ (.int .i64 t14))) rfl rfl (by go_simp <;> rfl) (((Sto.refl _ _).setCell 0 _).setCell 1 _) (((hB0).setCell 0 _).setCell 1 _) ?_
  clear hB0 cl0 fr0 cl1 fr1
  intro w18 hs hb20
  have hs19 := Aside0.mk hs
  clear hs
  refine wpList_nil ?_
  (try simp only [Exit.then, Exit.inBlock, ↓reduceIte, Nat.reduceEqDiff])
  refine hK11 _ _ ?_
  refine wp_ret ?_
  (try simp only [Exit.then, Exit.inBlock, ↓reduceIte, Nat.reduceEqDiff])
  refine hQf _ _ _ ?_
  have cr0 := hb20.cell (o := 0) rfl
  have cr1 := hb20.cell (o := 1) rfl
  exact bodyPost_ret (v := .agg #[.int .i64 t12, .int .i64 t14]) (by first | rfl | (simp [results, Try.results130, go_sem, cr0, cr1]; done) | (simp [results, Try.results130, go_sem, cr0, cr1]; rfl)) rfl ⟨rfl, ((((hu4.out.trans hu7.out).trans hu10.out).trans hu17.out).sto (Nat.le_trans ((Nat.le_trans (hu4.out.size) hu7.out.size)) lbb8.out) hs19.out)⟩

set_option maxHeartbeats 40000000 in
set_option maxRecDepth 100000 in
theorem spec_l01Times.calls (K : Nat) (a0 : Int) (a1 : Int) (a2_0 : Int) (a2_1 : Int) (r0 : Int) (r1 : Int) (w : World)  (h : spec_l01Times.f K a0 a1 a2_0 a2_1 = some (r0, r1)) :
    Calls Try.prog 128 #[.int .i64 a0, .int .i64 a1, .agg #[.int .i64 a2_0, .int .i64 a2_1]] w fun e w' => e = .returned (.agg #[.int .i64 r0, .int .i64 r1]) ∧ Up w w' := by
 have H : (((spec_l01Mod.f K (wrap64 (a1 * a2_0)) a0).bind fun t9 => ((spec_l01Mod.f K (wrap64 (a1 * a2_1)) a0).bind fun t11 => some (t9, t11))) : Option (Int × Int)) = some (r0, r1) := h
 clear h
 replace H := Option.bind_eq_some_iff.mp H
 obtain ⟨t9, A10, H⟩ := H
 replace A10 := Aside0.mk A10
 try dsimp only at H
 replace H := Option.bind_eq_some_iff.mp H
 obtain ⟨t11, A12, H⟩ := H
 replace A12 := Aside0.mk A12
 try dsimp only at H
 simp only [Option.some.injEq, Prod.mk.injEq] at H
 obtain ⟨rfl, rfl⟩ := H
 go_enter Try.func128, Try.ntmps128
 refine wp_hide (fun Qf hQf => ?_)
 refine wp_seq_k (fun K1 hK1 => ?_)
 refine wp_region_lit ?_
 refine step_new (cs := [.int .i64 a2_0, .int .i64 a2_1]) (T := 30) (f := fun b => .pointer (some ⟨b, 0, none⟩)) rfl (by go_simp <;> rfl) ?_
 intro b2 w3 hu lb hb2
 simp only [Act.put, nm1, nm2, nm3, i64_w]
 have lbb2 := Aside0.mk lb
 have ltb2 := Aside0.mk hb2.lt
 clear lb
 have hu4 := Aside0.mk hu
 clear hu
 refine step_new (cs := [.int .i64 0, .int .i64 0]) (T := 30) (f := fun b => .pointer (some ⟨b, 0, none⟩)) rfl (by go_simp <;> rfl) ?_
 intro b5 w6 hu lb hb5
 simp only [Act.put, nm1, nm2, nm3, i64_w]
 have lbb5 := Aside0.mk lb
 have ltb5 := Aside0.mk hb5.lt
 clear lb
 have hu7 := Aside0.mk hu
 clear hu
 refine wpList_nil ?_
 (try simp only [Exit.then, Exit.inBlock, ↓reduceIte, Nat.reduceEqDiff])
 refine hK1 _ _ ?_
 refine wp_seq_k (fun K8 hK8 => ?_)
 refine' wp_region_up 13 [Slot.det _, Slot.det _, Slot.det _, Slot.det _, Slot.det _, Slot.det (.int .i64 t9), Slot.det _, Slot.det _, Slot.det _, Slot.det _, Slot.det _, Slot.det (.int .i64 t11), Slot.det _] (by kernel_rfl) (by kernel_rfl) ?main
 case main =>
  simp only [List.take_succ_cons, List.take_zero]
  refine wpK_ops rfl (fun w1 hu => ?_) ?_
  · clear hu
    go_simp
    first | done | rfl
  simp only [Act.put, nm1, nm2, nm3, i64_w]
  refine wpK_ops rfl (fun w1 hu => ?_) ?_
  · clear hu
    go_simp
    first | done | rfl
  simp only [Act.put, nm1, nm2, nm3, i64_w]
  refine wpK_ops rfl (fun w1 hu => ?_) ?_
  · have cl0 := ((hb2.up hu7.out).up ((Up.refl _).drew.trans hu)).cell (o := 0) rfl
    go_simp
    first | done | rfl
  simp only [Act.put, nm1, nm2, nm3, i64_w]
  refine wpK_ops rfl (fun w1 hu => ?_) ?_
  · clear hu
    go_simp
    first | done | rfl
  simp only [Act.put, nm1, nm2, nm3, i64_w]
  refine wpK_ops rfl (fun w1 hu => ?_) ?_
  · clear hu
    go_simp
    first | done | rfl
  simp only [Act.put, nm1, nm2, nm3, i64_w]
  refine wpK_ops rfl (fun w1 hu => ?_) ?_
  · have hcl := (spec_l01Mod.calls K (wrap64 (a1 * a2_0)) a0 t9 w1  A10.out)
    clear hu
    replace hcl := Aside0.mk hcl
    go_simp
    exact hcl.out
  simp only [Act.put, nm1, nm2, nm3, i64_w]
  refine wpK_ops rfl (fun w1 hu => ?_) ?_
  · clear hu
    go_simp
    first | done | rfl
  simp only [Act.put, nm1, nm2, nm3, i64_w]
  refine wpK_ops rfl (fun w1 hu => ?_) ?_
  · clear hu
    go_simp
    first | done | rfl
  simp only [Act.put, nm1, nm2, nm3, i64_w]
  refine wpK_ops rfl (fun w1 hu => ?_) ?_
  · have cl0 := ((hb2.up hu7.out).up ((Up.refl _).drew.trans hu)).cell (o := 1) rfl
    go_simp
    first | done | rfl
  simp only [Act.put, nm1, nm2, nm3, i64_w]
  refine wpK_ops rfl (fun w1 hu => ?_) ?_
  · clear hu
    go_simp
    first | done | rfl
  simp only [Act.put, nm1, nm2, nm3, i64_w]
  refine wpK_ops rfl (fun w1 hu => ?_) ?_
  · clear hu
    go_simp
    first | done | rfl
  simp only [Act.put, nm1, nm2, nm3, i64_w]
  refine wpK_ops rfl (fun w1 hu => ?_) ?_
  · have hcl := (spec_l01Mod.calls K (wrap64 (a1 * a2_1)) a0 t11 w1  A12.out)
    clear hu
    replace hcl := Aside0.mk hcl
    go_simp
    exact hcl.out
  simp only [Act.put, nm1, nm2, nm3, i64_w]
  refine wpK_ops rfl (fun w1 hu => ?_) ?_
  · clear hu
    go_simp
    first | done | rfl
  simp only [Act.put, nm1, nm2, nm3, i64_w]
  refine wpK_nil ?_
  intro w13 hu hap
  simp only [List.drop_succ_cons, List.drop_zero]
  replace hu := (Up.refl _).drew.trans hu
  clear hap
  have hu14 := Aside0.mk hu
  clear hu
  have hB0 := (hb5.up hu14.out)
  have cl0 := hB0.cell (o := 0) rfl
  have fr0 := hB0.free 0
  have cl1 := hB0.cell (o := 1) rfl
  have fr1 := hB0.free 1
  refine step_store (b := b5) (cs' := [.int .i64 t9, .int .i64 t11]) (T := 30) (W' := ((w13.setCell ⟨b5, 0, none⟩ (.int .i64 t9)).setCell ⟨b5, 1, none⟩ (.int .i64 t11))) rfl rfl (by go_simp <;> rfl) (((Sto.refl _ _).setCell 0 _).setCell 1 _) (((hB0).setCell 0 _).setCell 1 _) ?_
  clear hB0 cl0 fr0 cl1 fr1
  intro w15 hs hb17
  have hs16 := Aside0.mk hs
  clear hs
  refine wpList_nil ?_
  (try simp only [Exit.then, Exit.inBlock, ↓reduceIte, Nat.reduceEqDiff])
  refine hK8 _ _ ?_
  refine wp_ret ?_
  (try simp only [Exit.then, Exit.inBlock, ↓reduceIte, Nat.reduceEqDiff])
  refine hQf _ _ _ ?_
  have cr0 := hb17.cell (o := 0) rfl
  have cr1 := hb17.cell (o := 1) rfl
  exact bodyPost_ret (v := .agg #[.int .i64 t9, .int .i64 t11]) (by first | rfl | (simp [results, Try.results128, go_sem, cr0, cr1]; done) | (simp [results, Try.results128, go_sem, cr0, cr1]; rfl)) rfl ⟨rfl, (((hu4.out.trans hu7.out).trans hu14.out).sto (Nat.le_trans (hu4.out.size) lbb5.out) hs16.out)⟩

set_option maxHeartbeats 40000000 in
set_option maxRecDepth 100000 in
theorem spec_l01Middle.calls (K : Nat) (a0 : Int) (a1_0 : Int) (a1_1 : Int) (a2_0 : Int) (a2_1 : Int) (r0 : Int) (r1 : Int) (w : World)  (h : spec_l01Middle.f K a0 a1_0 a1_1 a2_0 a2_1 = some (r0, r1)) :
    Calls Try.prog 134 #[.int .i64 a0, .agg #[.int .i64 a1_0, .int .i64 a1_1], .agg #[.int .i64 a2_0, .int .i64 a2_1]] w fun e w' => e = .returned (.agg #[.int .i64 r0, .int .i64 r1]) ∧ Up w w' := by
 have H : (((spec_l01Plus.f K a0 a1_0 a1_1 a2_0 a2_1).bind fun (t12, t13) => ((spec_l01Times.f K a0 (wrap64 (Int.tdiv (wrap64 (a0 + 1)) 2)) t12 t13).bind fun (t17, t18) => some (t17, t18))) : Option (Int × Int)) = some (r0, r1) := h
 clear h
 replace H := Option.bind_eq_some_iff.mp H
 obtain ⟨⟨t12, t13⟩, A14, H⟩ := H
 replace A14 := Aside0.mk A14
 try dsimp only at H
 replace H := Option.bind_eq_some_iff.mp H
 obtain ⟨⟨t17, t18⟩, A19, H⟩ := H
 replace A19 := Aside0.mk A19
 try dsimp only at H
 simp only [Option.some.injEq, Prod.mk.injEq] at H
 obtain ⟨rfl, rfl⟩ := H
 go_enter Try.func134, Try.ntmps134
 refine wp_hide (fun Qf hQf => ?_)
 refine wp_seq_k (fun K1 hK1 => ?_)
 refine wp_region_lit ?_
 refine step_new (cs := [.int .i64 a1_0, .int .i64 a1_1]) (T := 30) (f := fun b => .pointer (some ⟨b, 0, none⟩)) rfl (by go_simp <;> rfl) ?_
 intro b2 w3 hu lb hb2
 simp only [Act.put, nm1, nm2, nm3, i64_w]
 have lbb2 := Aside0.mk lb
 have ltb2 := Aside0.mk hb2.lt
 clear lb
 have hu4 := Aside0.mk hu
 clear hu
 refine step_new (cs := [.int .i64 a2_0, .int .i64 a2_1]) (T := 30) (f := fun b => .pointer (some ⟨b, 0, none⟩)) rfl (by go_simp <;> rfl) ?_
 intro b5 w6 hu lb hb5
 simp only [Act.put, nm1, nm2, nm3, i64_w]
 have lbb5 := Aside0.mk lb
 have ltb5 := Aside0.mk hb5.lt
 clear lb
 have hu7 := Aside0.mk hu
 clear hu
 refine step_new (cs := [.int .i64 0, .int .i64 0]) (T := 30) (f := fun b => .pointer (some ⟨b, 0, none⟩)) rfl (by go_simp <;> rfl) ?_
 intro b8 w9 hu lb hb8
 simp only [Act.put, nm1, nm2, nm3, i64_w]
 have lbb8 := Aside0.mk lb
 have ltb8 := Aside0.mk hb8.lt
 clear lb
 have hu10 := Aside0.mk hu
 clear hu
 refine wpList_nil ?_
 (try simp only [Exit.then, Exit.inBlock, ↓reduceIte, Nat.reduceEqDiff])
 refine hK1 _ _ ?_
 refine wp_seq_k (fun K11 hK11 => ?_)
 refine wp_region_lit ?_
 refine wpp fun K_ h_ => ?_; go_simp; refine h_ _ _ ?_; clear h_ K_
 refine wpp fun K_ h_ => ?_; go_simp; refine h_ _ _ ?_; clear h_ K_
 refine wpp fun K_ h_ => ?_; go_simp; refine h_ _ _ ?_; clear h_ K_
 refine wpp fun K_ h_ => ?_; go_simp; refine h_ _ _ ?_; clear h_ K_
 refine wpp fun K_ h_ => ?_; go_simp; refine h_ _ _ ?_; clear h_ K_
 have cl0 := (hb2.up (hu7.out.trans hu10.out)).cell (o := 0) rfl
 have cl1 := (hb2.up (hu7.out.trans hu10.out)).cell (o := 1) rfl
 refine wpp fun K_ h_ => ?_; go_simp; refine h_ _ _ ?_; clear h_ K_
 clear cl0 cl1
 have cl0 := (hb5.up hu10.out).cell (o := 0) rfl
 have cl1 := (hb5.up hu10.out).cell (o := 1) rfl
 refine wpp fun K_ h_ => ?_; go_simp; refine h_ _ _ ?_; clear h_ K_
 clear cl0 cl1
 refine step_call (wanted_none rfl) (by go_simp <;> rfl) (spec_l01Plus.calls K a0 a1_0 a1_1 a2_0 a2_1 t12 t13 w9  A14.out) ?_
 rintro e w15 ⟨rfl, hu⟩
 have hu16 := Aside0.mk hu
 clear hu
 refine ⟨_, rfl, ?_⟩
 simp only [Act.put, nm1, nm2, nm3, i64_w]
 refine step_call (wanted_none rfl) (by go_simp <;> rfl) (spec_l01Times.calls K a0 (wrap64 (Int.tdiv (wrap64 (a0 + 1)) 2)) t12 t13 t17 t18 w15  A19.out) ?_
 rintro e w20 ⟨rfl, hu⟩
 have hu21 := Aside0.mk hu
 clear hu
 refine ⟨_, rfl, ?_⟩
 simp only [Act.put, nm1, nm2, nm3, i64_w]
 have hB0 := (hb8.up (hu16.out.trans hu21.out))
 have cl0 := hB0.cell (o := 0) rfl
 have fr0 := hB0.free 0
 have cl1 := hB0.cell (o := 1) rfl
 have fr1 := hB0.free 1
 refine step_store (b := b8) (cs' := [.int .i64 t17, .int .i64 t18]) (T := 30) (W' := ((w20.setCell ⟨b8, 0, none⟩ (.int .i64 t17)).setCell ⟨b8, 1, none⟩ (.int .i64 t18))) rfl rfl (by go_simp <;> rfl) (((Sto.refl _ _).setCell 0 _).setCell 1 _) (((hB0).setCell 0 _).setCell 1 _) ?_
 clear hB0 cl0 fr0 cl1 fr1
 intro w22 hs hb24
 have hs23 := Aside0.mk hs
 clear hs
 refine wpList_nil ?_
 (try simp only [Exit.then, Exit.inBlock, ↓reduceIte, Nat.reduceEqDiff])
 refine hK11 _ _ ?_
 refine wp_ret ?_
 (try simp only [Exit.then, Exit.inBlock, ↓reduceIte, Nat.reduceEqDiff])
 refine hQf _ _ _ ?_
 have cr0 := hb24.cell (o := 0) rfl
 have cr1 := hb24.cell (o := 1) rfl
 exact bodyPost_ret (v := .agg #[.int .i64 t17, .int .i64 t18]) (by first | rfl | (simp [results, Try.results134, go_sem, cr0, cr1]; done) | (simp [results, Try.results134, go_sem, cr0, cr1]; rfl)) rfl ⟨rfl, (((((hu4.out.trans hu7.out).trans hu10.out).trans hu16.out).trans hu21.out).sto (Nat.le_trans ((Nat.le_trans (hu4.out.size) hu7.out.size)) lbb8.out) hs23.out)⟩

set_option maxHeartbeats 40000000 in
set_option maxRecDepth 100000 in
theorem spec_l01BadField.calls (K : Nat) (ba0 : Nat) (a0_0_A : Option Addr) (a0_0_c : Nat) (a0_0 : List (Int)) (a0_1 : Int) (a0_2 : Int) (a1 : Int) (r0 : Int) (r1 : Int) (r2 : Int) (w : World) (ha0 : Blk w ba0 [.slice a0_0_A a0_0.length a0_0_c, .int .i64 a0_1, .int .u64 a0_2] 158) (ha0_0 : Rd eU8 w a0_0_A a0_0) (haa0_0 : ∀ k, blk (.slice a0_0_A a0_0.length a0_0_c) = some k → 0 < a0_0.length → k ≠ ba0) (h : spec_l01BadField.f K a0_0 a0_1 a0_2 a1 = some (r0, r1, r2)) :
    Calls Try.prog 108 #[.pointer (some ⟨ba0, 0, none⟩), .int .i64 a1] w fun e w' => e = .returned (.int .i64 r0) ∧ Blk w' ba0 [.slice a0_0_A a0_0.length a0_0_c, .int .i64 r1, .int .u64 r2] 158 ∧ Grow (.pointer (some ⟨ba0, 0, none⟩)) w w' := by
 have H : (((spec_l01Next.f K a0_0 a0_1 a0_2 40).bind fun (t4, t5, t6) => (if (t4 == 0) = true then ((spec_l01Pick.f K a0_0 t5 t6 ([2, 1, 0, (-3), 9, 15, 37, 1099511627776])).bind fun (t17, t18, t19) => some (t17, t18, t19)) else some (a1, t5, t6))) : Option (Int × Int × Int)) = some (r0, r1, r2) := h
 clear h
 replace H := Option.bind_eq_some_iff.mp H
 obtain ⟨⟨t4, t5, t6⟩, A7, H⟩ := H
 replace A7 := Aside0.mk A7
 try dsimp only at H
 have ltba0 := Aside0.mk ha0.lt
 go_enter Try.func108, Try.ntmps108
 refine wp_hide (fun Qf hQf => ?_)
 refine wp_seq_k (fun K1 hK1 => ?_)
 refine wp_region_lit ?_
 refine wpp fun K_ h_ => ?_; go_simp; refine h_ _ _ ?_; clear h_ K_
 refine wpList_nil ?_
 (try simp only [Exit.then, Exit.inBlock, ↓reduceIte, Nat.reduceEqDiff])
 refine hK1 _ _ ?_
 refine wp_seq_k (fun K2 hK2 => ?_)
 refine wp_seq_k (fun K3 hK3 => ?_)
 refine wp_region_lit ?_
 refine wpp fun K_ h_ => ?_; go_simp; refine h_ _ _ ?_; clear h_ K_
 refine step_call (wanted_none rfl) (by go_simp <;> rfl) (spec_l01Next.calls K ba0 a0_0_A a0_0_c a0_0 a0_1 a0_2 40 t4 t5 t6 w ha0 ha0_0 haa0_0 A7.out) ?_
 rintro e w8 ⟨rfl, h9, hs⟩
 have hs10 := Aside0.mk hs
 clear hs
 have h11 := ha0_0.growp hs10.out haa0_0
 refine ⟨_, rfl, ?_⟩
 simp only [Act.put, nm1, nm2, nm3, i64_w]
 refine wpp fun K_ h_ => ?_; go_simp; refine h_ _ _ ?_; clear h_ K_
 refine wpList_nil ?_
 (try simp only [Exit.then, Exit.inBlock, ↓reduceIte, Nat.reduceEqDiff])
 refine hK3 _ _ ?_
 by_cases c12 : (t4 == 0) = true
 rotate_left
 ·
  rw [if_neg c12] at H; replace c12 := Bool.eq_false_iff.mpr c12
  have c12n : (t4 != 0) = true := by rw [bne, c12]; rfl
  have c12p : ¬ t4 = 0 := fun e => by simp [e] at c12
  simp only [Option.some.injEq, Prod.mk.injEq] at H
  obtain ⟨rfl, rfl, rfl⟩ := H
  try simp only [c12, c12n, Bool.not_true, Bool.not_false]
  refine wp_cond_false rfl ?_
  refine wp_skip ?_
  (try simp only [Exit.then, Exit.inBlock, ↓reduceIte, Nat.reduceEqDiff])
  refine hK2 _ _ ?_
  refine wp_seq_k (fun K26 hK26 => ?_)
  refine wp_region_lit ?_
  refine wpp fun K_ h_ => ?_; go_simp; refine h_ _ _ ?_; clear h_ K_
  refine wpp fun K_ h_ => ?_; go_simp; refine h_ _ _ ?_; clear h_ K_
  refine wpList_nil ?_
  (try simp only [Exit.then, Exit.inBlock, ↓reduceIte, Nat.reduceEqDiff])
  refine hK26 _ _ ?_
  refine wp_ret ?_
  (try simp only [Exit.then, Exit.inBlock, ↓reduceIte, Nat.reduceEqDiff])
  refine hQf _ _ _ ?_
  exact bodyPost_ret (v := .int .i64 a1) (by first | rfl | (simp [results, Try.results108, go_sem]; done) | (simp [results, Try.results108, go_sem]; rfl)) rfl ⟨rfl, h9, ((Grow.refl (.pointer (some ⟨ba0, 0, none⟩)) _).trans hs10.out)⟩
 rw [if_pos c12] at H
 have c12n : (t4 != 0) = false := by rw [bne, c12]; rfl
 replace H := Option.bind_eq_some_iff.mp H
 obtain ⟨⟨t17, t18, t19⟩, A20, H⟩ := H
 replace A20 := Aside0.mk A20
 try dsimp only at H
 simp only [Option.some.injEq, Prod.mk.injEq] at H
 obtain ⟨rfl, rfl, rfl⟩ := H
 try simp only [c12, c12n, Bool.not_true, Bool.not_false]
 refine wp_cond_true rfl ?_
 refine wp_seq_k (fun K13 hK13 => ?_)
 refine wp_region_lit ?_
 refine wpp fun K_ h_ => ?_; go_simp; refine h_ _ _ ?_; clear h_ K_
 refine step_new (cs := [.int .i64 2, .int .i64 1, .int .i64 0, .int .i64 (-3), .int .i64 9, .int .i64 15, .int .i64 37, .int .i64 1099511627776]) (T := 2) (f := fun b => .slice (some ⟨b, 0, none⟩) 8 8) rfl (by go_simp <;> rfl) ?_
 intro b14 w15 hu lb hb14
 simp only [Act.put, nm1, nm2, nm3, i64_w]
 have lbb14 := Aside0.mk lb
 have ltb14 := Aside0.mk hb14.lt
 clear lb
 have hu16 := Aside0.mk hu
 clear hu
 refine step_call (wanted_none rfl) (by go_simp <;> rfl) (spec_l01Pick.calls K ba0 a0_0_A a0_0_c a0_0 t5 t6 (some ⟨b14, 0, none⟩) 8 ([2, 1, 0, (-3), 9, 15, 37, 1099511627776]) t17 t18 t19 w15 (h9.up hu16.out) (h11.up hu16.out) haa0_0 (Rd.of_blk (E := eI) (xs := [2, 1, 0, (-3), 9, 15, 37, 1099511627776]) (o := 0) hb14 (by simp) (fun j u hu => by rcases j with _ | _ | _ | _ | _ | _ | _ | _ | j <;> simp_all [Enc.flat, eI])) (fun k hk hp e => (Ne.symm (Nat.ne_of_lt (Nat.lt_of_lt_of_le (Nat.lt_of_lt_of_le ltba0.out (hs10.out.size)) lbb14.out))) ((Option.some.inj hk).trans e)) A20.out) ?_
 rintro e w21 ⟨rfl, h22, hs⟩
 have hs23 := Aside0.mk hs
 clear hs
 have h24 := (h11.up hu16.out).growp hs23.out haa0_0
 have h25 := hb14.grow hs23.out (fun k hk e => (Nat.ne_of_lt (Nat.lt_of_lt_of_le (Nat.lt_of_lt_of_le ltba0.out (hs10.out.size)) lbb14.out)) ((Option.some.inj hk).trans e))
 refine ⟨_, rfl, ?_⟩
 simp only [Act.put, nm1, nm2, nm3, i64_w]
 refine wpp fun K_ h_ => ?_; go_simp; refine h_ _ _ ?_; clear h_ K_
 refine wpList_nil ?_
 (try simp only [Exit.then, Exit.inBlock, ↓reduceIte, Nat.reduceEqDiff])
 refine hK13 _ _ ?_
 refine wp_ret ?_
 (try simp only [Exit.then, Exit.inBlock, ↓reduceIte, Nat.reduceEqDiff])
 refine hQf _ _ _ ?_
 exact bodyPost_ret (v := .int .i64 t17) (by first | rfl | (simp [results, Try.results108, go_sem]; done) | (simp [results, Try.results108, go_sem]; rfl)) rfl ⟨rfl, h22, ((((Grow.refl (.pointer (some ⟨ba0, 0, none⟩)) _).trans hs10.out).trans (Grow.up hu16.out)).trans hs23.out)⟩

set_option maxHeartbeats 40000000 in
set_option maxRecDepth 100000 in
theorem spec_l01BadPoint.calls (K : Nat) (ba0 : Nat) (a0_0_A : Option Addr) (a0_0_c : Nat) (a0_0 : List (Int)) (a0_1 : Int) (a0_2 : Int) (a1 : Int) (a2_0 : Int) (a2_1 : Int) (r0 : Int) (r1 : Int) (r2 : Int) (r3 : Int) (w : World) (ha0 : Blk w ba0 [.slice a0_0_A a0_0.length a0_0_c, .int .i64 a0_1, .int .u64 a0_2] 158) (ha0_0 : Rd eU8 w a0_0_A a0_0) (haa0_0 : ∀ k, blk (.slice a0_0_A a0_0.length a0_0_c) = some k → 0 < a0_0.length → k ≠ ba0) (h : spec_l01BadPoint.f K a0_0 a0_1 a0_2 a1 a2_0 a2_1 = some (r0, r1, r2, r3)) :
    Calls Try.prog 195 #[.pointer (some ⟨ba0, 0, none⟩), .int .i64 a1, .agg #[.int .i64 a2_0, .int .i64 a2_1]] w fun e w' => e = .returned (.agg #[.int .i64 r0, .int .i64 r1]) ∧ Blk w' ba0 [.slice a0_0_A a0_0.length a0_0_c, .int .i64 r2, .int .u64 r3] 158 ∧ Grow (.pointer (some ⟨ba0, 0, none⟩)) w w' := by
 have H : (((spec_l01Next.f K a0_0 a0_1 a0_2 40).bind fun (t10, t11, t12) => (if (t10 == 0) = true then ((spec_l01Next.f K a0_0 t11 t12 2).bind fun (t21, t22, t23) => ((spec_l01Pick.f K a0_0 t22 t23 ([(-1), a1, 1099511627776])).bind fun (t34, t35, t36) => (if (t21 == 0) = true then some (t34, a2_1, t35, t36) else (if (t21 == 1) = true then some (a2_0, t34, t35, t36) else none)))) else some (a2_0, a2_1, t11, t12))) : Option (Int × Int × Int × Int)) = some (r0, r1, r2, r3) := h
 clear h
 replace H := Option.bind_eq_some_iff.mp H
 obtain ⟨⟨t10, t11, t12⟩, A13, H⟩ := H
 replace A13 := Aside0.mk A13
 try dsimp only at H
 have ltba0 := Aside0.mk ha0.lt
 go_enter Try.func195, Try.ntmps195
 refine wp_hide (fun Qf hQf => ?_)
 refine wp_seq_k (fun K1 hK1 => ?_)
 refine wp_region_lit ?_
 refine step_new (cs := [.int .i64 a2_0, .int .i64 a2_1]) (T := 30) (f := fun b => .pointer (some ⟨b, 0, none⟩)) rfl (by go_simp <;> rfl) ?_
 intro b2 w3 hu lb hb2
 simp only [Act.put, nm1, nm2, nm3, i64_w]
 have lbb2 := Aside0.mk lb
 have ltb2 := Aside0.mk hb2.lt
 clear lb
 have hu4 := Aside0.mk hu
 clear hu
 refine step_new (cs := [.int .i64 0, .int .i64 0]) (T := 30) (f := fun b => .pointer (some ⟨b, 0, none⟩)) rfl (by go_simp <;> rfl) ?_
 intro b5 w6 hu lb hb5
 simp only [Act.put, nm1, nm2, nm3, i64_w]
 have lbb5 := Aside0.mk lb
 have ltb5 := Aside0.mk hb5.lt
 clear lb
 have hu7 := Aside0.mk hu
 clear hu
 refine wpList_nil ?_
 (try simp only [Exit.then, Exit.inBlock, ↓reduceIte, Nat.reduceEqDiff])
 refine hK1 _ _ ?_
 refine wp_seq_k (fun K8 hK8 => ?_)
 refine wp_seq_k (fun K9 hK9 => ?_)
 refine wp_region_lit ?_
 refine wpp fun K_ h_ => ?_; go_simp; refine h_ _ _ ?_; clear h_ K_
 refine step_call (wanted_none rfl) (by go_simp <;> rfl) (spec_l01Next.calls K ba0 a0_0_A a0_0_c a0_0 a0_1 a0_2 40 t10 t11 t12 w6 (ha0.up (hu4.out.trans hu7.out)) (ha0_0.up (hu4.out.trans hu7.out)) haa0_0 A13.out) ?_
 rintro e w14 ⟨rfl, h15, hs⟩
 have hs16 := Aside0.mk hs
 clear hs
 have h17 := (ha0_0.up (hu4.out.trans hu7.out)).growp hs16.out haa0_0
 have h18 := (hb2.up hu7.out).grow hs16.out (fun k hk e => (Nat.ne_of_lt (Nat.lt_of_lt_of_le ltba0.out lbb2.out)) ((Option.some.inj hk).trans e))
 have h19 := hb5.grow hs16.out (fun k hk e => (Nat.ne_of_lt (Nat.lt_of_lt_of_le (Nat.lt_of_lt_of_le ltba0.out (hu4.out.size)) lbb5.out)) ((Option.some.inj hk).trans e))
 refine ⟨_, rfl, ?_⟩
 simp only [Act.put, nm1, nm2, nm3, i64_w]
 refine wpp fun K_ h_ => ?_; go_simp; refine h_ _ _ ?_; clear h_ K_
 refine wpList_nil ?_
 (try simp only [Exit.then, Exit.inBlock, ↓reduceIte, Nat.reduceEqDiff])
 refine hK9 _ _ ?_
 by_cases c20 : (t10 == 0) = true
 rotate_left
 ·
  rw [if_neg c20] at H; replace c20 := Bool.eq_false_iff.mpr c20
  have c20n : (t10 != 0) = true := by rw [bne, c20]; rfl
  have c20p : ¬ t10 = 0 := fun e => by simp [e] at c20
  simp only [Option.some.injEq, Prod.mk.injEq] at H
  obtain ⟨rfl, rfl, rfl, rfl⟩ := H
  try simp only [c20, c20n, Bool.not_true, Bool.not_false]
  refine wp_cond_false rfl ?_
  refine wp_skip ?_
  (try simp only [Exit.then, Exit.inBlock, ↓reduceIte, Nat.reduceEqDiff])
  refine hK8 _ _ ?_
  refine wp_seq_k (fun K78 hK78 => ?_)
  refine wp_region_lit ?_
  have cl0 := h18.cell (o := 0) rfl
  have cl1 := h18.cell (o := 1) rfl
  refine wpp fun K_ h_ => ?_; go_simp; refine h_ _ _ ?_; clear h_ K_
  clear cl0 cl1
  have hB0 := h19
  have cl0 := hB0.cell (o := 0) rfl
  have fr0 := hB0.free 0
  have cl1 := hB0.cell (o := 1) rfl
  have fr1 := hB0.free 1
  refine step_store (b := b5) (cs' := [.int .i64 a2_0, .int .i64 a2_1]) (T := 30) (W' := ((w14.setCell ⟨b5, 0, none⟩ (.int .i64 a2_0)).setCell ⟨b5, 1, none⟩ (.int .i64 a2_1))) rfl rfl (by go_simp <;> rfl) (((Sto.refl _ _).setCell 0 _).setCell 1 _) (((hB0).setCell 0 _).setCell 1 _) ?_
  clear hB0 cl0 fr0 cl1 fr1
  intro w79 hs hb81
  have hs80 := Aside0.mk hs
  clear hs
  have h82 := h15.sto hs80.out (Nat.ne_of_lt (Nat.lt_of_lt_of_le (Nat.lt_of_lt_of_le ltba0.out (hu4.out.size)) lbb5.out))
  have h83 := Rd.sto (c := 0) h17 hs80.out (fun k hk hp => Nat.ne_of_lt (Nat.lt_of_lt_of_le (ha0_0.blk_lt hp k hk) ((Nat.le_trans (hu4.out.size) lbb5.out))))
  have h84 := h18.sto hs80.out (Nat.ne_of_lt (Nat.lt_of_lt_of_le ltb2.out lbb5.out))
  refine wpList_nil ?_
  (try simp only [Exit.then, Exit.inBlock, ↓reduceIte, Nat.reduceEqDiff])
  refine hK78 _ _ ?_
  refine wp_ret ?_
  (try simp only [Exit.then, Exit.inBlock, ↓reduceIte, Nat.reduceEqDiff])
  refine hQf _ _ _ ?_
  have cr0 := hb81.cell (o := 0) rfl
  have cr1 := hb81.cell (o := 1) rfl
  exact bodyPost_ret (v := .agg #[.int .i64 a2_0, .int .i64 a2_1]) (by first | rfl | (simp [results, Try.results195, go_sem, cr0, cr1]; done) | (simp [results, Try.results195, go_sem, cr0, cr1]; rfl)) rfl ⟨rfl, h82, (Grow.sto_young ((((Grow.refl (.pointer (some ⟨ba0, 0, none⟩)) _).trans (Grow.up hu4.out)).trans (Grow.up hu7.out)).trans hs16.out) hs80.out (Nat.le_trans (hu4.out.size) lbb5.out))⟩
 rw [if_pos c20] at H
 have c20n : (t10 != 0) = false := by rw [bne, c20]; rfl
 replace H := Option.bind_eq_some_iff.mp H
 obtain ⟨⟨t21, t22, t23⟩, A24, H⟩ := H
 replace A24 := Aside0.mk A24
 try dsimp only at H
 replace H := Option.bind_eq_some_iff.mp H
 obtain ⟨⟨t34, t35, t36⟩, A37, H⟩ := H
 replace A37 := Aside0.mk A37
 try dsimp only at H
 try simp only [c20, c20n, Bool.not_true, Bool.not_false]
 refine wp_cond_true rfl ?_
 refine wp_region_lit ?_
 refine wpp fun K_ h_ => ?_; go_simp; refine h_ _ _ ?_; clear h_ K_
 refine step_call (wanted_none rfl) (by go_simp <;> rfl) (spec_l01Next.calls K ba0 a0_0_A a0_0_c a0_0 t11 t12 2 t21 t22 t23 w14 h15 h17 haa0_0 A24.out) ?_
 rintro e w25 ⟨rfl, h26, hs⟩
 have hs27 := Aside0.mk hs
 clear hs
 have h28 := h17.growp hs27.out haa0_0
 have h29 := h18.grow hs27.out (fun k hk e => (Nat.ne_of_lt (Nat.lt_of_lt_of_le ltba0.out lbb2.out)) ((Option.some.inj hk).trans e))
 have h30 := h19.grow hs27.out (fun k hk e => (Nat.ne_of_lt (Nat.lt_of_lt_of_le (Nat.lt_of_lt_of_le ltba0.out (hu4.out.size)) lbb5.out)) ((Option.some.inj hk).trans e))
 refine ⟨_, rfl, ?_⟩
 simp only [Act.put, nm1, nm2, nm3, i64_w]
 refine wpp fun K_ h_ => ?_; go_simp; refine h_ _ _ ?_; clear h_ K_
 refine wpp fun K_ h_ => ?_; go_simp; refine h_ _ _ ?_; clear h_ K_
 refine step_new (cs := [.int .i64 (-1), .int .i64 a1, .int .i64 1099511627776]) (T := 2) (f := fun b => .slice (some ⟨b, 0, none⟩) 3 3) rfl (by go_simp <;> rfl) ?_
 intro b31 w32 hu lb hb31
 simp only [Act.put, nm1, nm2, nm3, i64_w]
 have lbb31 := Aside0.mk lb
 have ltb31 := Aside0.mk hb31.lt
 clear lb
 have hu33 := Aside0.mk hu
 clear hu
 refine step_call (wanted_none rfl) (by go_simp <;> rfl) (spec_l01Pick.calls K ba0 a0_0_A a0_0_c a0_0 t22 t23 (some ⟨b31, 0, none⟩) 3 ([(-1), a1, 1099511627776]) t34 t35 t36 w32 (h26.up hu33.out) (h28.up hu33.out) haa0_0 (Rd.of_blk (E := eI) (xs := [(-1), a1, 1099511627776]) (o := 0) hb31 (by simp) (fun j u hu => by rcases j with _ | _ | _ | j <;> simp_all [Enc.flat, eI])) (fun k hk hp e => (Ne.symm (Nat.ne_of_lt (Nat.lt_of_lt_of_le (Nat.lt_of_lt_of_le ltba0.out ((Nat.le_trans ((Nat.le_trans ((Nat.le_trans (hu4.out.size) hu7.out.size)) hs16.out.size)) hs27.out.size))) lbb31.out))) ((Option.some.inj hk).trans e)) A37.out) ?_
 rintro e w38 ⟨rfl, h39, hs⟩
 have hs40 := Aside0.mk hs
 clear hs
 have h41 := (h28.up hu33.out).growp hs40.out haa0_0
 have h42 := (h29.up hu33.out).grow hs40.out (fun k hk e => (Nat.ne_of_lt (Nat.lt_of_lt_of_le ltba0.out lbb2.out)) ((Option.some.inj hk).trans e))
 have h43 := (h30.up hu33.out).grow hs40.out (fun k hk e => (Nat.ne_of_lt (Nat.lt_of_lt_of_le (Nat.lt_of_lt_of_le ltba0.out (hu4.out.size)) lbb5.out)) ((Option.some.inj hk).trans e))
 have h44 := hb31.grow hs40.out (fun k hk e => (Nat.ne_of_lt (Nat.lt_of_lt_of_le (Nat.lt_of_lt_of_le ltba0.out ((Nat.le_trans ((Nat.le_trans ((Nat.le_trans (hu4.out.size) hu7.out.size)) hs16.out.size)) hs27.out.size))) lbb31.out)) ((Option.some.inj hk).trans e))
 refine ⟨_, rfl, ?_⟩
 simp only [Act.put, nm1, nm2, nm3, i64_w]
 have hm46 := Aside0.mk (Nat.le_trans ((Nat.le_trans ((Nat.le_trans ((Nat.le_trans ((Nat.le_trans (hu4.out.size) hu7.out.size)) hs16.out.size)) hs27.out.size)) hu33.out.size)) hs40.out.size)
 by_cases c45 : (t21 == 0) = true
 ·
  rw [if_pos c45] at H
  have c45n : (t21 != 0) = false := by rw [bne, c45]; rfl
  obtain rfl : t21 = 0 := by simpa using c45
  simp only [Option.some.injEq, Prod.mk.injEq] at H
  obtain ⟨rfl, rfl, rfl, rfl⟩ := H
  try simp only [c45, c45n, Bool.not_true, Bool.not_false]
  refine wpp fun K_ h_ => ?_; go_simp; refine h_ _ _ ?_; clear h_ K_
  have hB0 := h42
  have cl0 := hB0.cell (o := 0) rfl
  have fr0 := hB0.free 0
  refine step_store (b := b2) (cs' := [.int .i64 t34, .int .i64 a2_1]) (T := 30) (W' := (w38.setCell ⟨b2, 0, none⟩ (.int .i64 t34))) rfl rfl (by go_simp <;> rfl) ((Sto.refl _ _).setCell 0 _) ((hB0).setCell 0 _) ?_
  clear hB0 cl0 fr0
  intro w47 hs hb49
  have hs48 := Aside0.mk hs
  clear hs
  have h50 := h39.sto hs48.out (Nat.ne_of_lt (Nat.lt_of_lt_of_le ltba0.out lbb2.out))
  have h51 := Rd.sto (c := 0) h41 hs48.out (fun k hk hp => Nat.ne_of_lt (Nat.lt_of_lt_of_le (ha0_0.blk_lt hp k hk) (lbb2.out)))
  have h52 := h43.sto hs48.out (Ne.symm (Nat.ne_of_lt (Nat.lt_of_lt_of_le ltb2.out lbb5.out)))
  have h53 := h44.sto hs48.out (Ne.symm (Nat.ne_of_lt (Nat.lt_of_lt_of_le (Nat.lt_of_lt_of_le ltb2.out ((Nat.le_trans ((Nat.le_trans (hu7.out.size) hs16.out.size)) hs27.out.size))) lbb31.out)))
  refine wpList_nil ?_
  (try simp only [Exit.then, Exit.inBlock, ↓reduceIte, Nat.reduceEqDiff])
  refine hK8 _ _ ?_
  refine wp_seq_k (fun K54 hK54 => ?_)
  refine wp_region_lit ?_
  have cl0 := hb49.cell (o := 0) rfl
  have cl1 := hb49.cell (o := 1) rfl
  refine wpp fun K_ h_ => ?_; go_simp; refine h_ _ _ ?_; clear h_ K_
  clear cl0 cl1
  have hB0 := h52
  have cl0 := hB0.cell (o := 0) rfl
  have fr0 := hB0.free 0
  have cl1 := hB0.cell (o := 1) rfl
  have fr1 := hB0.free 1
  refine step_store (b := b5) (cs' := [.int .i64 t34, .int .i64 a2_1]) (T := 30) (W' := ((w47.setCell ⟨b5, 0, none⟩ (.int .i64 t34)).setCell ⟨b5, 1, none⟩ (.int .i64 a2_1))) rfl rfl (by go_simp <;> rfl) (((Sto.refl _ _).setCell 0 _).setCell 1 _) (((hB0).setCell 0 _).setCell 1 _) ?_
  clear hB0 cl0 fr0 cl1 fr1
  intro w55 hs hb57
  have hs56 := Aside0.mk hs
  clear hs
  have h58 := h50.sto hs56.out (Nat.ne_of_lt (Nat.lt_of_lt_of_le (Nat.lt_of_lt_of_le ltba0.out (hu4.out.size)) lbb5.out))
  have h59 := Rd.sto (c := 0) h51 hs56.out (fun k hk hp => Nat.ne_of_lt (Nat.lt_of_lt_of_le (ha0_0.blk_lt hp k hk) ((Nat.le_trans (hu4.out.size) lbb5.out))))
  have h60 := hb49.sto hs56.out (Nat.ne_of_lt (Nat.lt_of_lt_of_le ltb2.out lbb5.out))
  have h61 := h53.sto hs56.out (Ne.symm (Nat.ne_of_lt (Nat.lt_of_lt_of_le (Nat.lt_of_lt_of_le ltb5.out ((Nat.le_trans (hs16.out.size) hs27.out.size))) lbb31.out)))
  refine wpList_nil ?_
  (try simp only [Exit.then, Exit.inBlock, ↓reduceIte, Nat.reduceEqDiff])
  refine hK54 _ _ ?_
  refine wp_ret ?_
  (try simp only [Exit.then, Exit.inBlock, ↓reduceIte, Nat.reduceEqDiff])
  refine hQf _ _ _ ?_
  have cr0 := hb57.cell (o := 0) rfl
  have cr1 := hb57.cell (o := 1) rfl
  exact bodyPost_ret (v := .agg #[.int .i64 t34, .int .i64 a2_1]) (by first | rfl | (simp [results, Try.results195, go_sem, cr0, cr1]; done) | (simp [results, Try.results195, go_sem, cr0, cr1]; rfl)) rfl ⟨rfl, h58, (Grow.sto_young (Grow.sto_young (((((((Grow.refl (.pointer (some ⟨ba0, 0, none⟩)) _).trans (Grow.up hu4.out)).trans (Grow.up hu7.out)).trans hs16.out).trans hs27.out).trans (Grow.up hu33.out)).trans hs40.out) hs48.out (Nat.le_trans (Nat.le_refl _) lbb2.out)) hs56.out (Nat.le_trans (hu4.out.size) lbb5.out))⟩
 rw [if_neg c45] at H; replace c45 := Bool.eq_false_iff.mpr c45
 have c45n : (t21 != 0) = true := by rw [bne, c45]; rfl
 have c45p : ¬ t21 = 0 := fun e => by simp [e] at c45
 try simp only [c45, c45n, Bool.not_true, Bool.not_false]
 by_cases c62 : (t21 == 1) = true
 rotate_left
 ·
  rw [if_neg c62] at H; replace c62 := Bool.eq_false_iff.mpr c62
  have c62n : (t21 != 1) = true := by rw [bne, c62]; rfl
  have c62p : ¬ t21 = 1 := fun e => by simp [e] at c62
  exact absurd H (by simp)
 rw [if_pos c62] at H
 have c62n : (t21 != 1) = false := by rw [bne, c62]; rfl
 obtain rfl : t21 = 1 := by simpa using c62
 simp only [Option.some.injEq, Prod.mk.injEq] at H
 obtain ⟨rfl, rfl, rfl, rfl⟩ := H
 try simp only [c62, c62n, Bool.not_true, Bool.not_false]
 refine wpp fun K_ h_ => ?_; go_simp; refine h_ _ _ ?_; clear h_ K_
 have hB0 := h42
 have cl0 := hB0.cell (o := 1) rfl
 have fr0 := hB0.free 1
 refine step_store (b := b2) (cs' := [.int .i64 a2_0, .int .i64 t34]) (T := 30) (W' := (w38.setCell ⟨b2, 1, none⟩ (.int .i64 t34))) rfl rfl (by go_simp <;> rfl) ((Sto.refl _ _).setCell 1 _) ((hB0).setCell 1 _) ?_
 clear hB0 cl0 fr0
 intro w63 hs hb65
 have hs64 := Aside0.mk hs
 clear hs
 have h66 := h39.sto hs64.out (Nat.ne_of_lt (Nat.lt_of_lt_of_le ltba0.out lbb2.out))
 have h67 := Rd.sto (c := 0) h41 hs64.out (fun k hk hp => Nat.ne_of_lt (Nat.lt_of_lt_of_le (ha0_0.blk_lt hp k hk) (lbb2.out)))
 have h68 := h43.sto hs64.out (Ne.symm (Nat.ne_of_lt (Nat.lt_of_lt_of_le ltb2.out lbb5.out)))
 have h69 := h44.sto hs64.out (Ne.symm (Nat.ne_of_lt (Nat.lt_of_lt_of_le (Nat.lt_of_lt_of_le ltb2.out ((Nat.le_trans ((Nat.le_trans (hu7.out.size) hs16.out.size)) hs27.out.size))) lbb31.out)))
 refine wpList_nil ?_
 (try simp only [Exit.then, Exit.inBlock, ↓reduceIte, Nat.reduceEqDiff])
 refine hK8 _ _ ?_
 refine wp_seq_k (fun K70 hK70 => ?_)
 refine wp_region_lit ?_
 have cl0 := hb65.cell (o := 0) rfl
 have cl1 := hb65.cell (o := 1) rfl
 refine wpp fun K_ h_ => ?_; go_simp; refine h_ _ _ ?_; clear h_ K_
 clear cl0 cl1
 have hB0 := h68
 have cl0 := hB0.cell (o := 0) rfl
 have fr0 := hB0.free 0
 have cl1 := hB0.cell (o := 1) rfl
 have fr1 := hB0.free 1
 refine step_store (b := b5) (cs' := [.int .i64 a2_0, .int .i64 t34]) (T := 30) (W' := ((w63.setCell ⟨b5, 0, none⟩ (.int .i64 a2_0)).setCell ⟨b5, 1, none⟩ (.int .i64 t34))) rfl rfl (by go_simp <;> rfl) (((Sto.refl _ _).setCell 0 _).setCell 1 _) (((hB0).setCell 0 _).setCell 1 _) ?_
 clear hB0 cl0 fr0 cl1 fr1
 intro w71 hs hb73
 have hs72 := Aside0.mk hs
 clear hs
 have h74 := h66.sto hs72.out (Nat.ne_of_lt (Nat.lt_of_lt_of_le (Nat.lt_of_lt_of_le ltba0.out (hu4.out.size)) lbb5.out))
 have h75 := Rd.sto (c := 0) h67 hs72.out (fun k hk hp => Nat.ne_of_lt (Nat.lt_of_lt_of_le (ha0_0.blk_lt hp k hk) ((Nat.le_trans (hu4.out.size) lbb5.out))))
 have h76 := hb65.sto hs72.out (Nat.ne_of_lt (Nat.lt_of_lt_of_le ltb2.out lbb5.out))
 have h77 := h69.sto hs72.out (Ne.symm (Nat.ne_of_lt (Nat.lt_of_lt_of_le (Nat.lt_of_lt_of_le ltb5.out ((Nat.le_trans (hs16.out.size) hs27.out.size))) lbb31.out)))
 refine wpList_nil ?_
 (try simp only [Exit.then, Exit.inBlock, ↓reduceIte, Nat.reduceEqDiff])
 refine hK70 _ _ ?_
 refine wp_ret ?_
 (try simp only [Exit.then, Exit.inBlock, ↓reduceIte, Nat.reduceEqDiff])
 refine hQf _ _ _ ?_
 have cr0 := hb73.cell (o := 0) rfl
 have cr1 := hb73.cell (o := 1) rfl
 exact bodyPost_ret (v := .agg #[.int .i64 a2_0, .int .i64 t34]) (by first | rfl | (simp [results, Try.results195, go_sem, cr0, cr1]; done) | (simp [results, Try.results195, go_sem, cr0, cr1]; rfl)) rfl ⟨rfl, h74, (Grow.sto_young (Grow.sto_young (((((((Grow.refl (.pointer (some ⟨ba0, 0, none⟩)) _).trans (Grow.up hu4.out)).trans (Grow.up hu7.out)).trans hs16.out).trans hs27.out).trans (Grow.up hu33.out)).trans hs40.out) hs64.out (Nat.le_trans (Nat.le_refl _) lbb2.out)) hs72.out (Nat.le_trans (hu4.out.size) lbb5.out))⟩

set_option maxHeartbeats 40000000 in
set_option maxRecDepth 100000 in
theorem spec_l04Draw.calls (K : Nat) (a0_A : Option Addr) (a0_c : Nat) (a0 : List (Int)) (r0 : Int) (r1 : Int) (r2 : Int) (r3 : Int) (r4 : Int) (r5 : Int) (r6 : Int) (r7 : Int) (w : World) (ha0 : Rd eU8 w a0_A a0) (h : spec_l04Draw.f K a0 = some (r0, r1, r2, r3, r4, r5, r6, r7)) :
    Calls Try.prog 158 #[.slice a0_A a0.length a0_c] w fun e w' => e = .returned (.tuple #[.int .i64 r0, .int .i64 r1, .agg #[.int .i64 r2, .int .i64 r3], .agg #[.int .i64 r4, .int .i64 r5], .agg #[.int .i64 r6, .int .i64 r7]]) ∧ Up w w' := by
 have H : (((spec_l01From.f K a0).bind fun (t13, t14) => ((spec_l01DrawField.f K a0 t13 t14).bind fun (t19, t20, t21) => ((spec_l04DrawOf.f K a0 t20 t21 t19).bind fun (t27, t28, t29, t30, t31, t32, t33, t34) => ((spec_l02DrawColour.f K a0 t33 t34).bind fun (t64, t65, t66) => ((spec_l01Next.f K a0 t65 t66 24).bind fun (t76, t77, t78) => (if (t76 == 0) = true then ((spec_l01Middle.f K t19 t27 t28 t29 t30).bind fun (t92, t93) => ((spec_l01BadField.f K a0 t77 t78 t19).bind fun (t111, t112, t113) => ((spec_l01BadPoint.f K a0 t112 t113 t19 t27 t28).bind fun (t124, t125, t126, t127) => ((spec_l01BadPoint.f K a0 t126 t127 t19 t29 t30).bind fun (t138, t139, t140, t141) => ((spec_l01BadPoint.f K a0 t140 t141 t19 t92 t93).bind fun (t152, t153, t154, t155) => some (t111, t64, t124, t125, t138, t139, t152, t153)))))) else ((spec_l01BadField.f K a0 t77 t78 t19).bind fun (t198, t199, t200) => ((spec_l01BadPoint.f K a0 t199 t200 t19 t27 t28).bind fun (t211, t212, t213, t214) => ((spec_l01BadPoint.f K a0 t213 t214 t19 t29 t30).bind fun (t225, t226, t227, t228) => ((spec_l01BadPoint.f K a0 t227 t228 t19 t31 t32).bind fun (t239, t240, t241, t242) => some (t198, t64, t211, t212, t225, t226, t239, t240))))))))))) : Option (Int × Int × Int × Int × Int × Int × Int × Int)) = some (r0, r1, r2, r3, r4, r5, r6, r7) := h
 clear h
 replace H := Option.bind_eq_some_iff.mp H
 obtain ⟨⟨t13, t14⟩, A15, H⟩ := H
 replace A15 := Aside0.mk A15
 try dsimp only at H
 replace H := Option.bind_eq_some_iff.mp H
 obtain ⟨⟨t19, t20, t21⟩, A22, H⟩ := H
 replace A22 := Aside0.mk A22
 try dsimp only at H
 replace H := Option.bind_eq_some_iff.mp H
 obtain ⟨⟨t27, t28, t29, t30, t31, t32, t33, t34⟩, A35, H⟩ := H
 replace A35 := Aside0.mk A35
 try dsimp only at H
 replace H := Option.bind_eq_some_iff.mp H
 obtain ⟨⟨t64, t65, t66⟩, A67, H⟩ := H
 replace A67 := Aside0.mk A67
 try dsimp only at H
 replace H := Option.bind_eq_some_iff.mp H
 obtain ⟨⟨t76, t77, t78⟩, A79, H⟩ := H
 replace A79 := Aside0.mk A79
 try dsimp only at H
 go_enter Try.func158, Try.ntmps158
 refine wp_hide (fun Qf hQf => ?_)
 refine wp_seq_k (fun K1 hK1 => ?_)
 refine wp_region_lit ?_
 refine wpp fun K_ h_ => ?_; go_simp; refine h_ _ _ ?_; clear h_ K_
 refine wpp fun K_ h_ => ?_; go_simp; refine h_ _ _ ?_; clear h_ K_
 refine step_new (cs := [.int .i64 0, .int .i64 0]) (T := 30) (f := fun b => .pointer (some ⟨b, 0, none⟩)) rfl (by go_simp <;> rfl) ?_
 intro b2 w3 hu lb hb2
 simp only [Act.put, nm1, nm2, nm3, i64_w]
 have lbb2 := Aside0.mk lb
 have ltb2 := Aside0.mk hb2.lt
 clear lb
 have hu4 := Aside0.mk hu
 clear hu
 refine step_new (cs := [.int .i64 0, .int .i64 0]) (T := 30) (f := fun b => .pointer (some ⟨b, 0, none⟩)) rfl (by go_simp <;> rfl) ?_
 intro b5 w6 hu lb hb5
 simp only [Act.put, nm1, nm2, nm3, i64_w]
 have lbb5 := Aside0.mk lb
 have ltb5 := Aside0.mk hb5.lt
 clear lb
 have hu7 := Aside0.mk hu
 clear hu
 refine step_new (cs := [.int .i64 0, .int .i64 0]) (T := 30) (f := fun b => .pointer (some ⟨b, 0, none⟩)) rfl (by go_simp <;> rfl) ?_
 intro b8 w9 hu lb hb8
 simp only [Act.put, nm1, nm2, nm3, i64_w]
 have lbb8 := Aside0.mk lb
 have ltb8 := Aside0.mk hb8.lt
 clear lb
 have hu10 := Aside0.mk hu
 clear hu
 refine wpList_nil ?_
 (try simp only [Exit.then, Exit.inBlock, ↓reduceIte, Nat.reduceEqDiff])
 refine hK1 _ _ ?_
 refine wp_seq_k (fun K11 hK11 => ?_)
 refine wp_region_lit ?_
 refine wpp fun K_ h_ => ?_; go_simp; refine h_ _ _ ?_; clear h_ K_
 refine step_call (wanted_none rfl) (by go_simp <;> rfl) (spec_l01From.calls K a0_A a0_c a0 t13 t14 w9 (ha0.up ((hu4.out.trans hu7.out).trans hu10.out)) A15.out) ?_
 rintro e w16 ⟨b12, rfl, hb12, lb, hu⟩
 have lbb12 := lb
 have ltb12 := Aside0.mk hb12.lt
 clear lb
 have hu17 := Aside0.mk hu
 clear hu
 refine ⟨_, rfl, ?_⟩
 simp only [Act.put, nm1, nm2, nm3, i64_w]
 refine wpp fun K_ h_ => ?_; go_simp; refine h_ _ _ ?_; clear h_ K_
 refine wpList_nil ?_
 (try simp only [Exit.then, Exit.inBlock, ↓reduceIte, Nat.reduceEqDiff])
 refine hK11 _ _ ?_
 refine wp_seq_k (fun K18 hK18 => ?_)
 refine wp_region_lit ?_
 refine wpp fun K_ h_ => ?_; go_simp; refine h_ _ _ ?_; clear h_ K_
 refine step_call (wanted_none rfl) (by go_simp <;> rfl) (spec_l01DrawField.calls K b12 a0_A a0_c a0 t13 t14 t19 t20 t21 w16 hb12 (ha0.up (((hu4.out.trans hu7.out).trans hu10.out).trans hu17.out)) (fun k hk hp => Nat.ne_of_lt (Nat.lt_of_lt_of_le ((ha0.up ((hu4.out.trans hu7.out).trans hu10.out)).blk_lt hp k hk) lbb12.out)) A22.out) ?_
 rintro e w23 ⟨rfl, h24, hs⟩
 have hs25 := Aside0.mk hs
 clear hs
 refine ⟨_, rfl, ?_⟩
 simp only [Act.put, nm1, nm2, nm3, i64_w]
 refine wpp fun K_ h_ => ?_; go_simp; refine h_ _ _ ?_; clear h_ K_
 refine wpList_nil ?_
 (try simp only [Exit.then, Exit.inBlock, ↓reduceIte, Nat.reduceEqDiff])
 refine hK18 _ _ ?_
 refine wp_seq_k (fun K26 hK26 => ?_)
 refine wp_region_lit ?_
 refine wpp fun K_ h_ => ?_; go_simp; refine h_ _ _ ?_; clear h_ K_
 refine wpp fun K_ h_ => ?_; go_simp; refine h_ _ _ ?_; clear h_ K_
 refine step_call (wanted_none rfl) (by go_simp <;> rfl) (spec_l04DrawOf.calls K b12 a0_A a0_c a0 t20 t21 t19 t27 t28 t29 t30 t31 t32 t33 t34 w23 h24 (ha0.up ((((hu4.out.trans hu7.out).trans hu10.out).trans hu17.out).grow hs25.out (fun k hk => Nat.le_trans ((Nat.le_trans ((Nat.le_trans (hu4.out.size) hu7.out.size)) hu10.out.size)) ((fun k hk => Nat.le_trans lbb12.out (Nat.le_of_eq (Option.some.inj hk))) k hk)))) (fun k hk hp => Nat.ne_of_lt (Nat.lt_of_lt_of_le ((ha0.up ((hu4.out.trans hu7.out).trans hu10.out)).blk_lt hp k hk) lbb12.out)) A35.out) ?_
 rintro e w36 ⟨rfl, h37, hs⟩
 have hs38 := Aside0.mk hs
 clear hs
 refine ⟨_, rfl, ?_⟩
 simp only [Act.put, nm1, nm2, nm3, i64_w]
 refine wpp fun K_ h_ => ?_; go_simp; refine h_ _ _ ?_; clear h_ K_
 refine wpp fun K_ h_ => ?_; go_simp; refine h_ _ _ ?_; clear h_ K_
 refine wpp fun K_ h_ => ?_; go_simp; refine h_ _ _ ?_; clear h_ K_
 refine wpp fun K_ h_ => ?_; go_simp; refine h_ _ _ ?_; clear h_ K_
 refine step_new (cs := [.int .i64 0, .int .i64 0]) (T := 30) (f := fun b => .pointer (some ⟨b, 0, none⟩)) rfl (by go_simp <;> rfl) ?_
 intro b39 w40 hu lb hb39
 simp only [Act.put, nm1, nm2, nm3, i64_w]
 have lbb39 := Aside0.mk lb
 have ltb39 := Aside0.mk hb39.lt
 clear lb
 have hu41 := Aside0.mk hu
 clear hu
 refine step_new (cs := [.int .i64 0, .int .i64 0]) (T := 30) (f := fun b => .pointer (some ⟨b, 0, none⟩)) rfl (by go_simp <;> rfl) ?_
 intro b42 w43 hu lb hb42
 simp only [Act.put, nm1, nm2, nm3, i64_w]
 have lbb42 := Aside0.mk lb
 have ltb42 := Aside0.mk hb42.lt
 clear lb
 have hu44 := Aside0.mk hu
 clear hu
 refine step_new (cs := [.int .i64 0, .int .i64 0]) (T := 30) (f := fun b => .pointer (some ⟨b, 0, none⟩)) rfl (by go_simp <;> rfl) ?_
 intro b45 w46 hu lb hb45
 simp only [Act.put, nm1, nm2, nm3, i64_w]
 have lbb45 := Aside0.mk lb
 have ltb45 := Aside0.mk hb45.lt
 clear lb
 have hu47 := Aside0.mk hu
 clear hu
 have hB0 := (hb39.up (hu44.out.trans hu47.out))
 have cl0 := hB0.cell (o := 0) rfl
 have fr0 := hB0.free 0
 have cl1 := hB0.cell (o := 1) rfl
 have fr1 := hB0.free 1
 refine step_store (b := b39) (cs' := [.int .i64 t27, .int .i64 t28]) (T := 30) (W' := ((w46.setCell ⟨b39, 0, none⟩ (.int .i64 t27)).setCell ⟨b39, 1, none⟩ (.int .i64 t28))) rfl rfl (by go_simp <;> rfl) (((Sto.refl _ _).setCell 0 _).setCell 1 _) (((hB0).setCell 0 _).setCell 1 _) ?_
 clear hB0 cl0 fr0 cl1 fr1
 intro w48 hs hb50
 have hs49 := Aside0.mk hs
 clear hs
 have h51 := (hb42.up hu47.out).sto hs49.out (Ne.symm (Nat.ne_of_lt (Nat.lt_of_lt_of_le ltb39.out lbb42.out)))
 have h52 := hb45.sto hs49.out (Ne.symm (Nat.ne_of_lt (Nat.lt_of_lt_of_le (Nat.lt_of_lt_of_le ltb39.out (hu44.out.size)) lbb45.out)))
 have hB0 := h51
 have cl0 := hB0.cell (o := 0) rfl
 have fr0 := hB0.free 0
 have cl1 := hB0.cell (o := 1) rfl
 have fr1 := hB0.free 1
 refine step_store (b := b42) (cs' := [.int .i64 t29, .int .i64 t30]) (T := 30) (W' := ((w48.setCell ⟨b42, 0, none⟩ (.int .i64 t29)).setCell ⟨b42, 1, none⟩ (.int .i64 t30))) rfl rfl (by go_simp <;> rfl) (((Sto.refl _ _).setCell 0 _).setCell 1 _) (((hB0).setCell 0 _).setCell 1 _) ?_
 clear hB0 cl0 fr0 cl1 fr1
 intro w53 hs hb55
 have hs54 := Aside0.mk hs
 clear hs
 have h56 := hb50.sto hs54.out (Nat.ne_of_lt (Nat.lt_of_lt_of_le ltb39.out lbb42.out))
 have h57 := h52.sto hs54.out (Ne.symm (Nat.ne_of_lt (Nat.lt_of_lt_of_le ltb42.out lbb45.out)))
 have hB0 := h57
 have cl0 := hB0.cell (o := 0) rfl
 have fr0 := hB0.free 0
 have cl1 := hB0.cell (o := 1) rfl
 have fr1 := hB0.free 1
 refine step_store (b := b45) (cs' := [.int .i64 t31, .int .i64 t32]) (T := 30) (W' := ((w53.setCell ⟨b45, 0, none⟩ (.int .i64 t31)).setCell ⟨b45, 1, none⟩ (.int .i64 t32))) rfl rfl (by go_simp <;> rfl) (((Sto.refl _ _).setCell 0 _).setCell 1 _) (((hB0).setCell 0 _).setCell 1 _) ?_
 clear hB0 cl0 fr0 cl1 fr1
 intro w58 hs hb60
 have hs59 := Aside0.mk hs
 clear hs
 have h61 := h56.sto hs59.out (Nat.ne_of_lt (Nat.lt_of_lt_of_le (Nat.lt_of_lt_of_le ltb39.out (hu44.out.size)) lbb45.out))
 have h62 := hb55.sto hs59.out (Nat.ne_of_lt (Nat.lt_of_lt_of_le ltb42.out lbb45.out))
 refine wpList_nil ?_
 (try simp only [Exit.then, Exit.inBlock, ↓reduceIte, Nat.reduceEqDiff])
 refine hK26 _ _ ?_
 refine wp_seq_k (fun K63 hK63 => ?_)
 refine wp_region_lit ?_
 refine wpp fun K_ h_ => ?_; go_simp; refine h_ _ _ ?_; clear h_ K_
 refine step_call (wanted_none rfl) (by go_simp <;> rfl) (spec_l02DrawColour.calls K b12 a0_A a0_c a0 t33 t34 t64 t65 t66 w58 (h37.up (((((hu41.out.trans hu44.out).trans hu47.out).sto (Nat.le_trans (Nat.le_refl _) lbb39.out) hs49.out).sto (Nat.le_trans (hu41.out.size) lbb42.out) hs54.out).sto (Nat.le_trans ((Nat.le_trans (hu41.out.size) hu44.out.size)) lbb45.out) hs59.out)) (ha0.up (((((((((((hu4.out.trans hu7.out).trans hu10.out).trans hu17.out).grow hs25.out (fun k hk => Nat.le_trans ((Nat.le_trans ((Nat.le_trans (hu4.out.size) hu7.out.size)) hu10.out.size)) ((fun k hk => Nat.le_trans lbb12.out (Nat.le_of_eq (Option.some.inj hk))) k hk))).grow hs38.out (fun k hk => Nat.le_trans ((Nat.le_trans ((Nat.le_trans (hu4.out.size) hu7.out.size)) hu10.out.size)) ((fun k hk => Nat.le_trans lbb12.out (Nat.le_of_eq (Option.some.inj hk))) k hk))).trans hu41.out).trans hu44.out).trans hu47.out).sto (Nat.le_trans ((Nat.le_trans ((Nat.le_trans ((Nat.le_trans ((Nat.le_trans ((Nat.le_trans (hu4.out.size) hu7.out.size)) hu10.out.size)) hu17.out.size)) hs25.out.size)) hs38.out.size)) lbb39.out) hs49.out).sto (Nat.le_trans ((Nat.le_trans ((Nat.le_trans ((Nat.le_trans ((Nat.le_trans ((Nat.le_trans ((Nat.le_trans (hu4.out.size) hu7.out.size)) hu10.out.size)) hu17.out.size)) hs25.out.size)) hs38.out.size)) hu41.out.size)) lbb42.out) hs54.out).sto (Nat.le_trans ((Nat.le_trans ((Nat.le_trans ((Nat.le_trans ((Nat.le_trans ((Nat.le_trans ((Nat.le_trans ((Nat.le_trans (hu4.out.size) hu7.out.size)) hu10.out.size)) hu17.out.size)) hs25.out.size)) hs38.out.size)) hu41.out.size)) hu44.out.size)) lbb45.out) hs59.out)) (fun k hk hp => Nat.ne_of_lt (Nat.lt_of_lt_of_le ((ha0.up ((hu4.out.trans hu7.out).trans hu10.out)).blk_lt hp k hk) lbb12.out)) A67.out) ?_
 rintro e w68 ⟨rfl, h69, hs⟩
 have hs70 := Aside0.mk hs
 clear hs
 have h71 := h61.grow hs70.out (fun k hk e => (Nat.ne_of_lt (Nat.lt_of_lt_of_le (Nat.lt_of_lt_of_le ltb12.out ((Nat.le_trans (hs25.out.size) hs38.out.size))) lbb39.out)) ((Option.some.inj hk).trans e))
 have h72 := h62.grow hs70.out (fun k hk e => (Nat.ne_of_lt (Nat.lt_of_lt_of_le (Nat.lt_of_lt_of_le ltb12.out ((Nat.le_trans ((Nat.le_trans (hs25.out.size) hs38.out.size)) hu41.out.size))) lbb42.out)) ((Option.some.inj hk).trans e))
 have h73 := hb60.grow hs70.out (fun k hk e => (Nat.ne_of_lt (Nat.lt_of_lt_of_le (Nat.lt_of_lt_of_le ltb12.out ((Nat.le_trans ((Nat.le_trans ((Nat.le_trans (hs25.out.size) hs38.out.size)) hu41.out.size)) hu44.out.size))) lbb45.out)) ((Option.some.inj hk).trans e))
 refine ⟨_, rfl, ?_⟩
 simp only [Act.put, nm1, nm2, nm3, i64_w]
 refine wpp fun K_ h_ => ?_; go_simp; refine h_ _ _ ?_; clear h_ K_
 refine wpList_nil ?_
 (try simp only [Exit.then, Exit.inBlock, ↓reduceIte, Nat.reduceEqDiff])
 refine hK63 _ _ ?_
 refine wp_seq_k (fun K74 hK74 => ?_)
 refine wp_seq_k (fun K75 hK75 => ?_)
 refine wp_region_lit ?_
 refine wpp fun K_ h_ => ?_; go_simp; refine h_ _ _ ?_; clear h_ K_
 refine step_call (wanted_none rfl) (by go_simp <;> rfl) (spec_l01Next.calls K b12 a0_A a0_c a0 t65 t66 24 t76 t77 t78 w68 h69 (ha0.up ((((((((((((hu4.out.trans hu7.out).trans hu10.out).trans hu17.out).grow hs25.out (fun k hk => Nat.le_trans ((Nat.le_trans ((Nat.le_trans (hu4.out.size) hu7.out.size)) hu10.out.size)) ((fun k hk => Nat.le_trans lbb12.out (Nat.le_of_eq (Option.some.inj hk))) k hk))).grow hs38.out (fun k hk => Nat.le_trans ((Nat.le_trans ((Nat.le_trans (hu4.out.size) hu7.out.size)) hu10.out.size)) ((fun k hk => Nat.le_trans lbb12.out (Nat.le_of_eq (Option.some.inj hk))) k hk))).trans hu41.out).trans hu44.out).trans hu47.out).sto (Nat.le_trans ((Nat.le_trans ((Nat.le_trans ((Nat.le_trans ((Nat.le_trans ((Nat.le_trans (hu4.out.size) hu7.out.size)) hu10.out.size)) hu17.out.size)) hs25.out.size)) hs38.out.size)) lbb39.out) hs49.out).sto (Nat.le_trans ((Nat.le_trans ((Nat.le_trans ((Nat.le_trans ((Nat.le_trans ((Nat.le_trans ((Nat.le_trans (hu4.out.size) hu7.out.size)) hu10.out.size)) hu17.out.size)) hs25.out.size)) hs38.out.size)) hu41.out.size)) lbb42.out) hs54.out).sto (Nat.le_trans ((Nat.le_trans ((Nat.le_trans ((Nat.le_trans ((Nat.le_trans ((Nat.le_trans ((Nat.le_trans ((Nat.le_trans (hu4.out.size) hu7.out.size)) hu10.out.size)) hu17.out.size)) hs25.out.size)) hs38.out.size)) hu41.out.size)) hu44.out.size)) lbb45.out) hs59.out).grow hs70.out (fun k hk => Nat.le_trans ((Nat.le_trans ((Nat.le_trans (hu4.out.size) hu7.out.size)) hu10.out.size)) ((fun k hk => Nat.le_trans lbb12.out (Nat.le_of_eq (Option.some.inj hk))) k hk)))) (fun k hk hp => Nat.ne_of_lt (Nat.lt_of_lt_of_le ((ha0.up ((hu4.out.trans hu7.out).trans hu10.out)).blk_lt hp k hk) lbb12.out)) A79.out) ?_
 rintro e w80 ⟨rfl, h81, hs⟩
 have hs82 := Aside0.mk hs
 clear hs
 have h83 := h71.grow hs82.out (fun k hk e => (Nat.ne_of_lt (Nat.lt_of_lt_of_le (Nat.lt_of_lt_of_le ltb12.out ((Nat.le_trans (hs25.out.size) hs38.out.size))) lbb39.out)) ((Option.some.inj hk).trans e))
 have h84 := h72.grow hs82.out (fun k hk e => (Nat.ne_of_lt (Nat.lt_of_lt_of_le (Nat.lt_of_lt_of_le ltb12.out ((Nat.le_trans ((Nat.le_trans (hs25.out.size) hs38.out.size)) hu41.out.size))) lbb42.out)) ((Option.some.inj hk).trans e))
 have h85 := h73.grow hs82.out (fun k hk e => (Nat.ne_of_lt (Nat.lt_of_lt_of_le (Nat.lt_of_lt_of_le ltb12.out ((Nat.le_trans ((Nat.le_trans ((Nat.le_trans (hs25.out.size) hs38.out.size)) hu41.out.size)) hu44.out.size))) lbb45.out)) ((Option.some.inj hk).trans e))
 refine ⟨_, rfl, ?_⟩
 simp only [Act.put, nm1, nm2, nm3, i64_w]
 refine wpp fun K_ h_ => ?_; go_simp; refine h_ _ _ ?_; clear h_ K_
 refine wpList_nil ?_
 (try simp only [Exit.then, Exit.inBlock, ↓reduceIte, Nat.reduceEqDiff])
 refine hK75 _ _ ?_
 have hm87 := Aside0.mk (((((((((((((hu4.out.trans hu7.out).trans hu10.out).trans hu17.out).grow hs25.out (fun k hk => Nat.le_trans ((Nat.le_trans ((Nat.le_trans (hu4.out.size) hu7.out.size)) hu10.out.size)) ((fun k hk => Nat.le_trans lbb12.out (Nat.le_of_eq (Option.some.inj hk))) k hk))).grow hs38.out (fun k hk => Nat.le_trans ((Nat.le_trans ((Nat.le_trans (hu4.out.size) hu7.out.size)) hu10.out.size)) ((fun k hk => Nat.le_trans lbb12.out (Nat.le_of_eq (Option.some.inj hk))) k hk))).trans hu41.out).trans hu44.out).trans hu47.out).sto (Nat.le_trans ((Nat.le_trans ((Nat.le_trans ((Nat.le_trans ((Nat.le_trans ((Nat.le_trans (hu4.out.size) hu7.out.size)) hu10.out.size)) hu17.out.size)) hs25.out.size)) hs38.out.size)) lbb39.out) hs49.out).sto (Nat.le_trans ((Nat.le_trans ((Nat.le_trans ((Nat.le_trans ((Nat.le_trans ((Nat.le_trans ((Nat.le_trans (hu4.out.size) hu7.out.size)) hu10.out.size)) hu17.out.size)) hs25.out.size)) hs38.out.size)) hu41.out.size)) lbb42.out) hs54.out).sto (Nat.le_trans ((Nat.le_trans ((Nat.le_trans ((Nat.le_trans ((Nat.le_trans ((Nat.le_trans ((Nat.le_trans ((Nat.le_trans (hu4.out.size) hu7.out.size)) hu10.out.size)) hu17.out.size)) hs25.out.size)) hs38.out.size)) hu41.out.size)) hu44.out.size)) lbb45.out) hs59.out).grow hs70.out (fun k hk => Nat.le_trans ((Nat.le_trans ((Nat.le_trans (hu4.out.size) hu7.out.size)) hu10.out.size)) ((fun k hk => Nat.le_trans lbb12.out (Nat.le_of_eq (Option.some.inj hk))) k hk))).grow hs82.out (fun k hk => Nat.le_trans ((Nat.le_trans ((Nat.le_trans (hu4.out.size) hu7.out.size)) hu10.out.size)) ((fun k hk => Nat.le_trans lbb12.out (Nat.le_of_eq (Option.some.inj hk))) k hk)))
 have hm88 := Aside0.mk (Nat.le_trans ((Nat.le_trans ((Nat.le_trans ((Nat.le_trans ((Nat.le_trans ((Nat.le_trans ((Nat.le_trans ((Nat.le_trans ((Nat.le_trans ((Nat.le_trans ((Nat.le_trans ((Nat.le_trans ((Nat.le_trans (hu4.out.size) hu7.out.size)) hu10.out.size)) hu17.out.size)) hs25.out.size)) hs38.out.size)) hu41.out.size)) hu44.out.size)) hu47.out.size)) (Nat.le_of_eq hs49.out.size.symm))) (Nat.le_of_eq hs54.out.size.symm))) (Nat.le_of_eq hs59.out.size.symm))) hs70.out.size)) hs82.out.size)
 have h89 := (hb2.up ((((((((((((hu7.out.trans hu10.out).trans hu17.out).grow hs25.out (fun k hk => Nat.le_trans ((Nat.le_trans (hu7.out.size) hu10.out.size)) ((fun k hk => Nat.le_trans lbb12.out (Nat.le_of_eq (Option.some.inj hk))) k hk))).grow hs38.out (fun k hk => Nat.le_trans ((Nat.le_trans (hu7.out.size) hu10.out.size)) ((fun k hk => Nat.le_trans lbb12.out (Nat.le_of_eq (Option.some.inj hk))) k hk))).trans hu41.out).trans hu44.out).trans hu47.out).sto (Nat.le_trans ((Nat.le_trans ((Nat.le_trans ((Nat.le_trans ((Nat.le_trans (hu7.out.size) hu10.out.size)) hu17.out.size)) hs25.out.size)) hs38.out.size)) lbb39.out) hs49.out).sto (Nat.le_trans ((Nat.le_trans ((Nat.le_trans ((Nat.le_trans ((Nat.le_trans ((Nat.le_trans (hu7.out.size) hu10.out.size)) hu17.out.size)) hs25.out.size)) hs38.out.size)) hu41.out.size)) lbb42.out) hs54.out).sto (Nat.le_trans ((Nat.le_trans ((Nat.le_trans ((Nat.le_trans ((Nat.le_trans ((Nat.le_trans ((Nat.le_trans (hu7.out.size) hu10.out.size)) hu17.out.size)) hs25.out.size)) hs38.out.size)) hu41.out.size)) hu44.out.size)) lbb45.out) hs59.out).grow hs70.out (fun k hk => Nat.le_trans ((Nat.le_trans (hu7.out.size) hu10.out.size)) ((fun k hk => Nat.le_trans lbb12.out (Nat.le_of_eq (Option.some.inj hk))) k hk))).grow hs82.out (fun k hk => Nat.le_trans ((Nat.le_trans (hu7.out.size) hu10.out.size)) ((fun k hk => Nat.le_trans lbb12.out (Nat.le_of_eq (Option.some.inj hk))) k hk))))
 have h90 := (hb5.up (((((((((((hu10.out.trans hu17.out).grow hs25.out (fun k hk => Nat.le_trans (hu10.out.size) ((fun k hk => Nat.le_trans lbb12.out (Nat.le_of_eq (Option.some.inj hk))) k hk))).grow hs38.out (fun k hk => Nat.le_trans (hu10.out.size) ((fun k hk => Nat.le_trans lbb12.out (Nat.le_of_eq (Option.some.inj hk))) k hk))).trans hu41.out).trans hu44.out).trans hu47.out).sto (Nat.le_trans ((Nat.le_trans ((Nat.le_trans ((Nat.le_trans (hu10.out.size) hu17.out.size)) hs25.out.size)) hs38.out.size)) lbb39.out) hs49.out).sto (Nat.le_trans ((Nat.le_trans ((Nat.le_trans ((Nat.le_trans ((Nat.le_trans (hu10.out.size) hu17.out.size)) hs25.out.size)) hs38.out.size)) hu41.out.size)) lbb42.out) hs54.out).sto (Nat.le_trans ((Nat.le_trans ((Nat.le_trans ((Nat.le_trans ((Nat.le_trans ((Nat.le_trans (hu10.out.size) hu17.out.size)) hs25.out.size)) hs38.out.size)) hu41.out.size)) hu44.out.size)) lbb45.out) hs59.out).grow hs70.out (fun k hk => Nat.le_trans (hu10.out.size) ((fun k hk => Nat.le_trans lbb12.out (Nat.le_of_eq (Option.some.inj hk))) k hk))).grow hs82.out (fun k hk => Nat.le_trans (hu10.out.size) ((fun k hk => Nat.le_trans lbb12.out (Nat.le_of_eq (Option.some.inj hk))) k hk))))
 have h91 := (hb8.up ((((((((((hu17.out.grow hs25.out (fun k hk => Nat.le_trans (Nat.le_refl _) ((fun k hk => Nat.le_trans lbb12.out (Nat.le_of_eq (Option.some.inj hk))) k hk))).grow hs38.out (fun k hk => Nat.le_trans (Nat.le_refl _) ((fun k hk => Nat.le_trans lbb12.out (Nat.le_of_eq (Option.some.inj hk))) k hk))).trans hu41.out).trans hu44.out).trans hu47.out).sto (Nat.le_trans ((Nat.le_trans ((Nat.le_trans (hu17.out.size) hs25.out.size)) hs38.out.size)) lbb39.out) hs49.out).sto (Nat.le_trans ((Nat.le_trans ((Nat.le_trans ((Nat.le_trans (hu17.out.size) hs25.out.size)) hs38.out.size)) hu41.out.size)) lbb42.out) hs54.out).sto (Nat.le_trans ((Nat.le_trans ((Nat.le_trans ((Nat.le_trans ((Nat.le_trans (hu17.out.size) hs25.out.size)) hs38.out.size)) hu41.out.size)) hu44.out.size)) lbb45.out) hs59.out).grow hs70.out (fun k hk => Nat.le_trans (Nat.le_refl _) ((fun k hk => Nat.le_trans lbb12.out (Nat.le_of_eq (Option.some.inj hk))) k hk))).grow hs82.out (fun k hk => Nat.le_trans (Nat.le_refl _) ((fun k hk => Nat.le_trans lbb12.out (Nat.le_of_eq (Option.some.inj hk))) k hk))))
 by_cases c86 : (t76 == 0) = true
 rotate_left
 ·
  rw [if_neg c86] at H; replace c86 := Bool.eq_false_iff.mpr c86
  have c86n : (t76 != 0) = true := by rw [bne, c86]; rfl
  have c86p : ¬ t76 = 0 := fun e => by simp [e] at c86
  replace H := Option.bind_eq_some_iff.mp H
  obtain ⟨⟨t198, t199, t200⟩, A201, H⟩ := H
  replace A201 := Aside0.mk A201
  try dsimp only at H
  replace H := Option.bind_eq_some_iff.mp H
  obtain ⟨⟨t211, t212, t213, t214⟩, A215, H⟩ := H
  replace A215 := Aside0.mk A215
  try dsimp only at H
  replace H := Option.bind_eq_some_iff.mp H
  obtain ⟨⟨t225, t226, t227, t228⟩, A229, H⟩ := H
  replace A229 := Aside0.mk A229
  try dsimp only at H
  replace H := Option.bind_eq_some_iff.mp H
  obtain ⟨⟨t239, t240, t241, t242⟩, A243, H⟩ := H
  replace A243 := Aside0.mk A243
  try dsimp only at H
  simp only [Option.some.injEq, Prod.mk.injEq] at H
  obtain ⟨rfl, rfl, rfl, rfl, rfl, rfl, rfl, rfl⟩ := H
  try simp only [c86, c86n, Bool.not_true, Bool.not_false]
  refine wp_cond_false rfl ?_
  refine wp_skip ?_
  (try simp only [Exit.then, Exit.inBlock, ↓reduceIte, Nat.reduceEqDiff])
  refine hK74 _ _ ?_
  refine wp_seq_k (fun K193 hK193 => ?_)
  have hTT_ : ∀ w_, Up (World.drew w80) w_ → (fun w_ => Blk w_ b39 [.int .i64 t27, .int .i64 t28] 30 ∧ Blk w_ b42 [.int .i64 t29, .int .i64 t30] 30 ∧ Blk w_ b45 [.int .i64 t31, .int .i64 t32] 30 ∧ True) w_ := fun w_ hu_ => ⟨h83.up ((Up.refl _).drew.trans hu_), h84.up ((Up.refl _).drew.trans hu_), h85.up ((Up.refl _).drew.trans hu_), True.intro⟩
  refine' wp_region_mix (fun w_ => Blk w_ b39 [.int .i64 t27, .int .i64 t28] 30 ∧ Blk w_ b42 [.int .i64 t29, .int .i64 t30] 30 ∧ Blk w_ b45 [.int .i64 t31, .int .i64 t32] 30 ∧ True) [0, 1, 3, 4, 5, 6, 8, 9, 10, 12, 13, 14] [2, 7, 11, 15, 16, 17, 18, 19, 20] [Slot.pur _, Slot.pur _, Slot.pur _, Slot.pur _, Slot.pur _, Slot.pur _, Slot.pur _, Slot.pur _, Slot.pur _, Slot.pur _, Slot.pur _, Slot.pur _] (by kernel_rfl) (by kernel_rfl) rfl rfl hTT_ ?main
  case main =>
   simp only [pick, List.drop_succ_cons, List.drop_zero]
   refine wpK_pur rfl hTT_ (fun w1 hT => ?_) ?_
   · clear hT
     go_simp
     first | done | rfl
   simp only [Act.put, nm1, nm2, nm3, i64_w]
   refine wpK_pur rfl hTT_ (fun w1 hT => ?_) ?_
   · clear hT
     go_simp
     first | done | rfl
   simp only [Act.put, nm1, nm2, nm3, i64_w]
   refine wpK_pur rfl hTT_ (fun w1 hT => ?_) ?_
   · clear hT
     go_simp
     first | done | rfl
   simp only [Act.put, nm1, nm2, nm3, i64_w]
   refine wpK_pur rfl hTT_ (fun w1 hT => ?_) ?_
   · clear hT
     go_simp
     first | done | rfl
   simp only [Act.put, nm1, nm2, nm3, i64_w]
   refine wpK_pur rfl hTT_ (fun w1 hT => ?_) ?_
   · clear hT
     go_simp
     first | done | rfl
   simp only [Act.put, nm1, nm2, nm3, i64_w]
   refine wpK_pur rfl hTT_ (fun w1 hT => ?_) ?_
   · have hB_ := hT.1
     have cl0 := hB_.cell (o := 0) rfl
     have cl1 := hB_.cell (o := 1) rfl
     clear hT
     go_simp
     first | done | rfl
   simp only [Act.put, nm1, nm2, nm3, i64_w]
   refine wpK_pur rfl hTT_ (fun w1 hT => ?_) ?_
   · clear hT
     go_simp
     first | done | rfl
   simp only [Act.put, nm1, nm2, nm3, i64_w]
   refine wpK_pur rfl hTT_ (fun w1 hT => ?_) ?_
   · clear hT
     go_simp
     first | done | rfl
   simp only [Act.put, nm1, nm2, nm3, i64_w]
   refine wpK_pur rfl hTT_ (fun w1 hT => ?_) ?_
   · have hB_ := hT.2.1
     have cl0 := hB_.cell (o := 0) rfl
     have cl1 := hB_.cell (o := 1) rfl
     clear hT
     go_simp
     first | done | rfl
   simp only [Act.put, nm1, nm2, nm3, i64_w]
   refine wpK_pur rfl hTT_ (fun w1 hT => ?_) ?_
   · clear hT
     go_simp
     first | done | rfl
   simp only [Act.put, nm1, nm2, nm3, i64_w]
   refine wpK_pur rfl hTT_ (fun w1 hT => ?_) ?_
   · clear hT
     go_simp
     first | done | rfl
   simp only [Act.put, nm1, nm2, nm3, i64_w]
   refine wpK_pur rfl hTT_ (fun w1 hT => ?_) ?_
   · have hB_ := hT.2.2.1
     have cl0 := hB_.cell (o := 0) rfl
     have cl1 := hB_.cell (o := 1) rfl
     clear hT
     go_simp
     first | done | rfl
   simp only [Act.put, nm1, nm2, nm3, i64_w]
   refine wpK_nil ?_
   intro w196 hu
   replace hu := (Up.refl _).drew.trans hu
   have hu197 := Aside0.mk hu
   clear hu
   refine late_consT ⟨(h83.up hu197.out), (h84.up hu197.out), (h85.up hu197.out), True.intro⟩ ?_
   refine step_call (wanted_none rfl) (by go_simp <;> rfl) (spec_l01BadField.calls K b12 a0_A a0_c a0 t77 t78 t19 t198 t199 t200 w196 (h81.up hu197.out) (ha0.up (hm87.out.trans hu197.out)) (fun k hk hp => Nat.ne_of_lt (Nat.lt_of_lt_of_le ((ha0.up ((hu4.out.trans hu7.out).trans hu10.out)).blk_lt hp k hk) lbb12.out)) A201.out) ?_
   rintro e w202 ⟨rfl, h203, hs⟩
   have hs204 := Aside0.mk hs
   clear hs
   have h205 := (h89.up hu197.out).grow hs204.out (fun k hk e => (Ne.symm (Nat.ne_of_lt (Nat.lt_of_lt_of_le (Nat.lt_of_lt_of_le ltb2.out ((Nat.le_trans (hu7.out.size) hu10.out.size))) lbb12.out))) ((Option.some.inj hk).trans e))
   have h206 := (h90.up hu197.out).grow hs204.out (fun k hk e => (Ne.symm (Nat.ne_of_lt (Nat.lt_of_lt_of_le (Nat.lt_of_lt_of_le ltb5.out (hu10.out.size)) lbb12.out))) ((Option.some.inj hk).trans e))
   have h207 := (h91.up hu197.out).grow hs204.out (fun k hk e => (Ne.symm (Nat.ne_of_lt (Nat.lt_of_lt_of_le ltb8.out lbb12.out))) ((Option.some.inj hk).trans e))
   have h208 := (h83.up hu197.out).grow hs204.out (fun k hk e => (Nat.ne_of_lt (Nat.lt_of_lt_of_le (Nat.lt_of_lt_of_le ltb12.out ((Nat.le_trans (hs25.out.size) hs38.out.size))) lbb39.out)) ((Option.some.inj hk).trans e))
   have h209 := (h84.up hu197.out).grow hs204.out (fun k hk e => (Nat.ne_of_lt (Nat.lt_of_lt_of_le (Nat.lt_of_lt_of_le ltb12.out ((Nat.le_trans ((Nat.le_trans (hs25.out.size) hs38.out.size)) hu41.out.size))) lbb42.out)) ((Option.some.inj hk).trans e))
   have h210 := (h85.up hu197.out).grow hs204.out (fun k hk e => (Nat.ne_of_lt (Nat.lt_of_lt_of_le (Nat.lt_of_lt_of_le ltb12.out ((Nat.le_trans ((Nat.le_trans ((Nat.le_trans (hs25.out.size) hs38.out.size)) hu41.out.size)) hu44.out.size))) lbb45.out)) ((Option.some.inj hk).trans e))
   refine ⟨_, rfl, ?_⟩
   simp only [Act.put, nm1, nm2, nm3, i64_w]
   refine wpList_nil ?_
   refine wrapQ_k ?_
   refine late_consT ⟨h208, h209, h210, True.intro⟩ ?_
   refine step_call (wanted_none rfl) (by go_simp <;> rfl) (spec_l01BadPoint.calls K b12 a0_A a0_c a0 t199 t200 t19 t27 t28 t211 t212 t213 t214 w202 h203 (ha0.up ((hm87.out.trans hu197.out).grow hs204.out (fun k hk => Nat.le_trans ((Nat.le_trans ((Nat.le_trans (hu4.out.size) hu7.out.size)) hu10.out.size)) ((fun k hk => Nat.le_trans lbb12.out (Nat.le_of_eq (Option.some.inj hk))) k hk)))) (fun k hk hp => Nat.ne_of_lt (Nat.lt_of_lt_of_le ((ha0.up ((hu4.out.trans hu7.out).trans hu10.out)).blk_lt hp k hk) lbb12.out)) A215.out) ?_
   rintro e w216 ⟨rfl, h217, hs⟩
   have hs218 := Aside0.mk hs
   clear hs
   have h219 := h205.grow hs218.out (fun k hk e => (Ne.symm (Nat.ne_of_lt (Nat.lt_of_lt_of_le (Nat.lt_of_lt_of_le ltb2.out ((Nat.le_trans (hu7.out.size) hu10.out.size))) lbb12.out))) ((Option.some.inj hk).trans e))
   have h220 := h206.grow hs218.out (fun k hk e => (Ne.symm (Nat.ne_of_lt (Nat.lt_of_lt_of_le (Nat.lt_of_lt_of_le ltb5.out (hu10.out.size)) lbb12.out))) ((Option.some.inj hk).trans e))
   have h221 := h207.grow hs218.out (fun k hk e => (Ne.symm (Nat.ne_of_lt (Nat.lt_of_lt_of_le ltb8.out lbb12.out))) ((Option.some.inj hk).trans e))
   have h222 := h208.grow hs218.out (fun k hk e => (Nat.ne_of_lt (Nat.lt_of_lt_of_le (Nat.lt_of_lt_of_le ltb12.out ((Nat.le_trans (hs25.out.size) hs38.out.size))) lbb39.out)) ((Option.some.inj hk).trans e))
   have h223 := h209.grow hs218.out (fun k hk e => (Nat.ne_of_lt (Nat.lt_of_lt_of_le (Nat.lt_of_lt_of_le ltb12.out ((Nat.le_trans ((Nat.le_trans (hs25.out.size) hs38.out.size)) hu41.out.size))) lbb42.out)) ((Option.some.inj hk).trans e))
   have h224 := h210.grow hs218.out (fun k hk e => (Nat.ne_of_lt (Nat.lt_of_lt_of_le (Nat.lt_of_lt_of_le ltb12.out ((Nat.le_trans ((Nat.le_trans ((Nat.le_trans (hs25.out.size) hs38.out.size)) hu41.out.size)) hu44.out.size))) lbb45.out)) ((Option.some.inj hk).trans e))
   refine ⟨_, rfl, ?_⟩
   simp only [Act.put, nm1, nm2, nm3, i64_w]
   refine wpList_nil ?_
   refine wrapQ_k ?_
   refine late_consT ⟨h222, h223, h224, True.intro⟩ ?_
   refine step_call (wanted_none rfl) (by go_simp <;> rfl) (spec_l01BadPoint.calls K b12 a0_A a0_c a0 t213 t214 t19 t29 t30 t225 t226 t227 t228 w216 h217 (ha0.up (((hm87.out.trans hu197.out).grow hs204.out (fun k hk => Nat.le_trans ((Nat.le_trans ((Nat.le_trans (hu4.out.size) hu7.out.size)) hu10.out.size)) ((fun k hk => Nat.le_trans lbb12.out (Nat.le_of_eq (Option.some.inj hk))) k hk))).grow hs218.out (fun k hk => Nat.le_trans ((Nat.le_trans ((Nat.le_trans (hu4.out.size) hu7.out.size)) hu10.out.size)) ((fun k hk => Nat.le_trans lbb12.out (Nat.le_of_eq (Option.some.inj hk))) k hk)))) (fun k hk hp => Nat.ne_of_lt (Nat.lt_of_lt_of_le ((ha0.up ((hu4.out.trans hu7.out).trans hu10.out)).blk_lt hp k hk) lbb12.out)) A229.out) ?_
   rintro e w230 ⟨rfl, h231, hs⟩
   have hs232 := Aside0.mk hs
   clear hs
   have h233 := h219.grow hs232.out (fun k hk e => (Ne.symm (Nat.ne_of_lt (Nat.lt_of_lt_of_le (Nat.lt_of_lt_of_le ltb2.out ((Nat.le_trans (hu7.out.size) hu10.out.size))) lbb12.out))) ((Option.some.inj hk).trans e))
   have h234 := h220.grow hs232.out (fun k hk e => (Ne.symm (Nat.ne_of_lt (Nat.lt_of_lt_of_le (Nat.lt_of_lt_of_le ltb5.out (hu10.out.size)) lbb12.out))) ((Option.some.inj hk).trans e))
   have h235 := h221.grow hs232.out (fun k hk e => (Ne.symm (Nat.ne_of_lt (Nat.lt_of_lt_of_le ltb8.out lbb12.out))) ((Option.some.inj hk).trans e))
   have h236 := h222.grow hs232.out (fun k hk e => (Nat.ne_of_lt (Nat.lt_of_lt_of_le (Nat.lt_of_lt_of_le ltb12.out ((Nat.le_trans (hs25.out.size) hs38.out.size))) lbb39.out)) ((Option.some.inj hk).trans e))
   have h237 := h223.grow hs232.out (fun k hk e => (Nat.ne_of_lt (Nat.lt_of_lt_of_le (Nat.lt_of_lt_of_le ltb12.out ((Nat.le_trans ((Nat.le_trans (hs25.out.size) hs38.out.size)) hu41.out.size))) lbb42.out)) ((Option.some.inj hk).trans e))
   have h238 := h224.grow hs232.out (fun k hk e => (Nat.ne_of_lt (Nat.lt_of_lt_of_le (Nat.lt_of_lt_of_le ltb12.out ((Nat.le_trans ((Nat.le_trans ((Nat.le_trans (hs25.out.size) hs38.out.size)) hu41.out.size)) hu44.out.size))) lbb45.out)) ((Option.some.inj hk).trans e))
   refine ⟨_, rfl, ?_⟩
   simp only [Act.put, nm1, nm2, nm3, i64_w]
   refine wpList_nil ?_
   refine wrapQ_k ?_
   refine late_consT ⟨h236, h237, h238, True.intro⟩ ?_
   refine step_call (wanted_none rfl) (by go_simp <;> rfl) (spec_l01BadPoint.calls K b12 a0_A a0_c a0 t227 t228 t19 t31 t32 t239 t240 t241 t242 w230 h231 (ha0.up ((((hm87.out.trans hu197.out).grow hs204.out (fun k hk => Nat.le_trans ((Nat.le_trans ((Nat.le_trans (hu4.out.size) hu7.out.size)) hu10.out.size)) ((fun k hk => Nat.le_trans lbb12.out (Nat.le_of_eq (Option.some.inj hk))) k hk))).grow hs218.out (fun k hk => Nat.le_trans ((Nat.le_trans ((Nat.le_trans (hu4.out.size) hu7.out.size)) hu10.out.size)) ((fun k hk => Nat.le_trans lbb12.out (Nat.le_of_eq (Option.some.inj hk))) k hk))).grow hs232.out (fun k hk => Nat.le_trans ((Nat.le_trans ((Nat.le_trans (hu4.out.size) hu7.out.size)) hu10.out.size)) ((fun k hk => Nat.le_trans lbb12.out (Nat.le_of_eq (Option.some.inj hk))) k hk)))) (fun k hk hp => Nat.ne_of_lt (Nat.lt_of_lt_of_le ((ha0.up ((hu4.out.trans hu7.out).trans hu10.out)).blk_lt hp k hk) lbb12.out)) A243.out) ?_
   rintro e w244 ⟨rfl, h245, hs⟩
   have hs246 := Aside0.mk hs
   clear hs
   have h247 := h233.grow hs246.out (fun k hk e => (Ne.symm (Nat.ne_of_lt (Nat.lt_of_lt_of_le (Nat.lt_of_lt_of_le ltb2.out ((Nat.le_trans (hu7.out.size) hu10.out.size))) lbb12.out))) ((Option.some.inj hk).trans e))
   have h248 := h234.grow hs246.out (fun k hk e => (Ne.symm (Nat.ne_of_lt (Nat.lt_of_lt_of_le (Nat.lt_of_lt_of_le ltb5.out (hu10.out.size)) lbb12.out))) ((Option.some.inj hk).trans e))
   have h249 := h235.grow hs246.out (fun k hk e => (Ne.symm (Nat.ne_of_lt (Nat.lt_of_lt_of_le ltb8.out lbb12.out))) ((Option.some.inj hk).trans e))
   have h250 := h236.grow hs246.out (fun k hk e => (Nat.ne_of_lt (Nat.lt_of_lt_of_le (Nat.lt_of_lt_of_le ltb12.out ((Nat.le_trans (hs25.out.size) hs38.out.size))) lbb39.out)) ((Option.some.inj hk).trans e))
   have h251 := h237.grow hs246.out (fun k hk e => (Nat.ne_of_lt (Nat.lt_of_lt_of_le (Nat.lt_of_lt_of_le ltb12.out ((Nat.le_trans ((Nat.le_trans (hs25.out.size) hs38.out.size)) hu41.out.size))) lbb42.out)) ((Option.some.inj hk).trans e))
   have h252 := h238.grow hs246.out (fun k hk e => (Nat.ne_of_lt (Nat.lt_of_lt_of_le (Nat.lt_of_lt_of_le ltb12.out ((Nat.le_trans ((Nat.le_trans ((Nat.le_trans (hs25.out.size) hs38.out.size)) hu41.out.size)) hu44.out.size))) lbb45.out)) ((Option.some.inj hk).trans e))
   refine ⟨_, rfl, ?_⟩
   simp only [Act.put, nm1, nm2, nm3, i64_w]
   refine wpList_nil ?_
   refine wrapQ_k ?_
   refine late_consT ⟨h250, h251, h252, True.intro⟩ ?_
   refine wpp fun K_ h_ => ?_; go_simp; refine h_ _ _ ?_; clear h_ K_
   refine wpList_nil ?_
   refine wrapQ_k ?_
   refine late_consT ⟨h250, h251, h252, True.intro⟩ ?_
   refine wpp fun K_ h_ => ?_; go_simp; refine h_ _ _ ?_; clear h_ K_
   refine wpList_nil ?_
   refine wrapQ_k ?_
   refine late_consT ⟨h250, h251, h252, True.intro⟩ ?_
   have hB0 := h247
   have cl0 := hB0.cell (o := 0) rfl
   have fr0 := hB0.free 0
   have cl1 := hB0.cell (o := 1) rfl
   have fr1 := hB0.free 1
   refine step_store (b := b2) (cs' := [.int .i64 t211, .int .i64 t212]) (T := 30) (W' := ((w244.setCell ⟨b2, 0, none⟩ (.int .i64 t211)).setCell ⟨b2, 1, none⟩ (.int .i64 t212))) rfl rfl (by go_simp <;> rfl) (((Sto.refl _ _).setCell 0 _).setCell 1 _) (((hB0).setCell 0 _).setCell 1 _) ?_
   clear hB0 cl0 fr0 cl1 fr1
   intro w253 hs hb255
   have hs254 := Aside0.mk hs
   clear hs
   have h256 := h248.sto hs254.out (Ne.symm (Nat.ne_of_lt (Nat.lt_of_lt_of_le ltb2.out lbb5.out)))
   have h257 := h249.sto hs254.out (Ne.symm (Nat.ne_of_lt (Nat.lt_of_lt_of_le (Nat.lt_of_lt_of_le ltb2.out (hu7.out.size)) lbb8.out)))
   have h258 := h245.sto hs254.out (Ne.symm (Nat.ne_of_lt (Nat.lt_of_lt_of_le (Nat.lt_of_lt_of_le ltb2.out ((Nat.le_trans (hu7.out.size) hu10.out.size))) lbb12.out)))
   have h259 := h250.sto hs254.out (Ne.symm (Nat.ne_of_lt (Nat.lt_of_lt_of_le (Nat.lt_of_lt_of_le ltb2.out ((Nat.le_trans ((Nat.le_trans ((Nat.le_trans ((Nat.le_trans (hu7.out.size) hu10.out.size)) hu17.out.size)) hs25.out.size)) hs38.out.size))) lbb39.out)))
   have h260 := h251.sto hs254.out (Ne.symm (Nat.ne_of_lt (Nat.lt_of_lt_of_le (Nat.lt_of_lt_of_le ltb2.out ((Nat.le_trans ((Nat.le_trans ((Nat.le_trans ((Nat.le_trans ((Nat.le_trans (hu7.out.size) hu10.out.size)) hu17.out.size)) hs25.out.size)) hs38.out.size)) hu41.out.size))) lbb42.out)))
   have h261 := h252.sto hs254.out (Ne.symm (Nat.ne_of_lt (Nat.lt_of_lt_of_le (Nat.lt_of_lt_of_le ltb2.out ((Nat.le_trans ((Nat.le_trans ((Nat.le_trans ((Nat.le_trans ((Nat.le_trans ((Nat.le_trans (hu7.out.size) hu10.out.size)) hu17.out.size)) hs25.out.size)) hs38.out.size)) hu41.out.size)) hu44.out.size))) lbb45.out)))
   refine wpList_nil ?_
   refine wrapQ_k ?_
   refine late_consT ⟨h259, h260, h261, True.intro⟩ ?_
   have hB0 := h256
   have cl0 := hB0.cell (o := 0) rfl
   have fr0 := hB0.free 0
   have cl1 := hB0.cell (o := 1) rfl
   have fr1 := hB0.free 1
   refine step_store (b := b5) (cs' := [.int .i64 t225, .int .i64 t226]) (T := 30) (W' := ((w253.setCell ⟨b5, 0, none⟩ (.int .i64 t225)).setCell ⟨b5, 1, none⟩ (.int .i64 t226))) rfl rfl (by go_simp <;> rfl) (((Sto.refl _ _).setCell 0 _).setCell 1 _) (((hB0).setCell 0 _).setCell 1 _) ?_
   clear hB0 cl0 fr0 cl1 fr1
   intro w262 hs hb264
   have hs263 := Aside0.mk hs
   clear hs
   have h265 := hb255.sto hs263.out (Nat.ne_of_lt (Nat.lt_of_lt_of_le ltb2.out lbb5.out))
   have h266 := h257.sto hs263.out (Ne.symm (Nat.ne_of_lt (Nat.lt_of_lt_of_le ltb5.out lbb8.out)))
   have h267 := h258.sto hs263.out (Ne.symm (Nat.ne_of_lt (Nat.lt_of_lt_of_le (Nat.lt_of_lt_of_le ltb5.out (hu10.out.size)) lbb12.out)))
   have h268 := h259.sto hs263.out (Ne.symm (Nat.ne_of_lt (Nat.lt_of_lt_of_le (Nat.lt_of_lt_of_le ltb5.out ((Nat.le_trans ((Nat.le_trans ((Nat.le_trans (hu10.out.size) hu17.out.size)) hs25.out.size)) hs38.out.size))) lbb39.out)))
   have h269 := h260.sto hs263.out (Ne.symm (Nat.ne_of_lt (Nat.lt_of_lt_of_le (Nat.lt_of_lt_of_le ltb5.out ((Nat.le_trans ((Nat.le_trans ((Nat.le_trans ((Nat.le_trans (hu10.out.size) hu17.out.size)) hs25.out.size)) hs38.out.size)) hu41.out.size))) lbb42.out)))
   have h270 := h261.sto hs263.out (Ne.symm (Nat.ne_of_lt (Nat.lt_of_lt_of_le (Nat.lt_of_lt_of_le ltb5.out ((Nat.le_trans ((Nat.le_trans ((Nat.le_trans ((Nat.le_trans ((Nat.le_trans (hu10.out.size) hu17.out.size)) hs25.out.size)) hs38.out.size)) hu41.out.size)) hu44.out.size))) lbb45.out)))
   refine wpList_nil ?_
   refine wrapQ_k ?_
   refine late_consT ⟨h268, h269, h270, True.intro⟩ ?_
   have hB0 := h266
   have cl0 := hB0.cell (o := 0) rfl
   have fr0 := hB0.free 0
   have cl1 := hB0.cell (o := 1) rfl
   have fr1 := hB0.free 1
   refine step_store (b := b8) (cs' := [.int .i64 t239, .int .i64 t240]) (T := 30) (W' := ((w262.setCell ⟨b8, 0, none⟩ (.int .i64 t239)).setCell ⟨b8, 1, none⟩ (.int .i64 t240))) rfl rfl (by go_simp <;> rfl) (((Sto.refl _ _).setCell 0 _).setCell 1 _) (((hB0).setCell 0 _).setCell 1 _) ?_
   clear hB0 cl0 fr0 cl1 fr1
   intro w271 hs hb273
   have hs272 := Aside0.mk hs
   clear hs
   have h274 := h265.sto hs272.out (Nat.ne_of_lt (Nat.lt_of_lt_of_le (Nat.lt_of_lt_of_le ltb2.out (hu7.out.size)) lbb8.out))
   have h275 := hb264.sto hs272.out (Nat.ne_of_lt (Nat.lt_of_lt_of_le ltb5.out lbb8.out))
   have h276 := h267.sto hs272.out (Ne.symm (Nat.ne_of_lt (Nat.lt_of_lt_of_le ltb8.out lbb12.out)))
   have h277 := h268.sto hs272.out (Ne.symm (Nat.ne_of_lt (Nat.lt_of_lt_of_le (Nat.lt_of_lt_of_le ltb8.out ((Nat.le_trans ((Nat.le_trans (hu17.out.size) hs25.out.size)) hs38.out.size))) lbb39.out)))
   have h278 := h269.sto hs272.out (Ne.symm (Nat.ne_of_lt (Nat.lt_of_lt_of_le (Nat.lt_of_lt_of_le ltb8.out ((Nat.le_trans ((Nat.le_trans ((Nat.le_trans (hu17.out.size) hs25.out.size)) hs38.out.size)) hu41.out.size))) lbb42.out)))
   have h279 := h270.sto hs272.out (Ne.symm (Nat.ne_of_lt (Nat.lt_of_lt_of_le (Nat.lt_of_lt_of_le ltb8.out ((Nat.le_trans ((Nat.le_trans ((Nat.le_trans ((Nat.le_trans (hu17.out.size) hs25.out.size)) hs38.out.size)) hu41.out.size)) hu44.out.size))) lbb45.out)))
   refine wpList_nil ?_
   refine wrapQ_k ?_
   refine late_nilT ⟨h277, h278, h279, True.intro⟩ ?_
   (try simp only [Exit.then, Exit.inBlock, ↓reduceIte, Nat.reduceEqDiff])
   refine hK193 _ _ ?_
   refine wp_ret ?_
   (try simp only [Exit.then, Exit.inBlock, ↓reduceIte, Nat.reduceEqDiff])
   refine hQf _ _ _ ?_
   have cr0 := h274.cell (o := 0) rfl
   have cr1 := h274.cell (o := 1) rfl
   have cr2 := h275.cell (o := 0) rfl
   have cr3 := h275.cell (o := 1) rfl
   have cr4 := hb273.cell (o := 0) rfl
   have cr5 := hb273.cell (o := 1) rfl
   exact bodyPost_ret (v := .tuple #[.int .i64 t198, .int .i64 t64, .agg #[.int .i64 t211, .int .i64 t212], .agg #[.int .i64 t225, .int .i64 t226], .agg #[.int .i64 t239, .int .i64 t240]]) (by first | rfl | (simp [results, Try.results158, go_sem, cr0, cr1, cr2, cr3, cr4, cr5]; done) | (simp [results, Try.results158, go_sem, cr0, cr1, cr2, cr3, cr4, cr5]; rfl)) rfl ⟨rfl, ((((((((hm87.out.trans hu197.out).grow hs204.out (fun k hk => Nat.le_trans ((Nat.le_trans ((Nat.le_trans (hu4.out.size) hu7.out.size)) hu10.out.size)) ((fun k hk => Nat.le_trans lbb12.out (Nat.le_of_eq (Option.some.inj hk))) k hk))).grow hs218.out (fun k hk => Nat.le_trans ((Nat.le_trans ((Nat.le_trans (hu4.out.size) hu7.out.size)) hu10.out.size)) ((fun k hk => Nat.le_trans lbb12.out (Nat.le_of_eq (Option.some.inj hk))) k hk))).grow hs232.out (fun k hk => Nat.le_trans ((Nat.le_trans ((Nat.le_trans (hu4.out.size) hu7.out.size)) hu10.out.size)) ((fun k hk => Nat.le_trans lbb12.out (Nat.le_of_eq (Option.some.inj hk))) k hk))).grow hs246.out (fun k hk => Nat.le_trans ((Nat.le_trans ((Nat.le_trans (hu4.out.size) hu7.out.size)) hu10.out.size)) ((fun k hk => Nat.le_trans lbb12.out (Nat.le_of_eq (Option.some.inj hk))) k hk))).sto (Nat.le_trans (Nat.le_refl _) lbb2.out) hs254.out).sto (Nat.le_trans (hu4.out.size) lbb5.out) hs263.out).sto (Nat.le_trans ((Nat.le_trans (hu4.out.size) hu7.out.size)) lbb8.out) hs272.out)⟩
 rw [if_pos c86] at H
 have c86n : (t76 != 0) = false := by rw [bne, c86]; rfl
 replace H := Option.bind_eq_some_iff.mp H
 obtain ⟨⟨t92, t93⟩, A94, H⟩ := H
 replace A94 := Aside0.mk A94
 try dsimp only at H
 replace H := Option.bind_eq_some_iff.mp H
 obtain ⟨⟨t111, t112, t113⟩, A114, H⟩ := H
 replace A114 := Aside0.mk A114
 try dsimp only at H
 replace H := Option.bind_eq_some_iff.mp H
 obtain ⟨⟨t124, t125, t126, t127⟩, A128, H⟩ := H
 replace A128 := Aside0.mk A128
 try dsimp only at H
 replace H := Option.bind_eq_some_iff.mp H
 obtain ⟨⟨t138, t139, t140, t141⟩, A142, H⟩ := H
 replace A142 := Aside0.mk A142
 try dsimp only at H
 replace H := Option.bind_eq_some_iff.mp H
 obtain ⟨⟨t152, t153, t154, t155⟩, A156, H⟩ := H
 replace A156 := Aside0.mk A156
 try dsimp only at H
 simp only [Option.some.injEq, Prod.mk.injEq] at H
 obtain ⟨rfl, rfl, rfl, rfl, rfl, rfl, rfl, rfl⟩ := H
 try simp only [c86, c86n, Bool.not_true, Bool.not_false]
 refine wp_cond_true rfl ?_
 refine wp_region_lit ?_
 refine wpp fun K_ h_ => ?_; go_simp; refine h_ _ _ ?_; clear h_ K_
 have cl0 := h83.cell (o := 0) rfl
 have cl1 := h83.cell (o := 1) rfl
 refine wpp fun K_ h_ => ?_; go_simp; refine h_ _ _ ?_; clear h_ K_
 clear cl0 cl1
 have cl0 := h84.cell (o := 0) rfl
 have cl1 := h84.cell (o := 1) rfl
 refine wpp fun K_ h_ => ?_; go_simp; refine h_ _ _ ?_; clear h_ K_
 clear cl0 cl1
 refine step_call (wanted_none rfl) (by go_simp <;> rfl) (spec_l01Middle.calls K t19 t27 t28 t29 t30 t92 t93 w80  A94.out) ?_
 rintro e w95 ⟨rfl, hu⟩
 have hu96 := Aside0.mk hu
 clear hu
 refine ⟨_, rfl, ?_⟩
 simp only [Act.put, nm1, nm2, nm3, i64_w]
 have hB0 := (h85.up hu96.out)
 have cl0 := hB0.cell (o := 0) rfl
 have fr0 := hB0.free 0
 have cl1 := hB0.cell (o := 1) rfl
 have fr1 := hB0.free 1
 refine step_store (b := b45) (cs' := [.int .i64 t92, .int .i64 t93]) (T := 30) (W' := ((w95.setCell ⟨b45, 0, none⟩ (.int .i64 t92)).setCell ⟨b45, 1, none⟩ (.int .i64 t93))) rfl rfl (by go_simp <;> rfl) (((Sto.refl _ _).setCell 0 _).setCell 1 _) (((hB0).setCell 0 _).setCell 1 _) ?_
 clear hB0 cl0 fr0 cl1 fr1
 intro w97 hs hb99
 have hs98 := Aside0.mk hs
 clear hs
 have h100 := (h89.up hu96.out).sto hs98.out (Nat.ne_of_lt (Nat.lt_of_lt_of_le (Nat.lt_of_lt_of_le ltb2.out ((Nat.le_trans ((Nat.le_trans ((Nat.le_trans ((Nat.le_trans ((Nat.le_trans ((Nat.le_trans (hu7.out.size) hu10.out.size)) hu17.out.size)) hs25.out.size)) hs38.out.size)) hu41.out.size)) hu44.out.size))) lbb45.out))
 have h101 := (h90.up hu96.out).sto hs98.out (Nat.ne_of_lt (Nat.lt_of_lt_of_le (Nat.lt_of_lt_of_le ltb5.out ((Nat.le_trans ((Nat.le_trans ((Nat.le_trans ((Nat.le_trans ((Nat.le_trans (hu10.out.size) hu17.out.size)) hs25.out.size)) hs38.out.size)) hu41.out.size)) hu44.out.size))) lbb45.out))
 have h102 := (h91.up hu96.out).sto hs98.out (Nat.ne_of_lt (Nat.lt_of_lt_of_le (Nat.lt_of_lt_of_le ltb8.out ((Nat.le_trans ((Nat.le_trans ((Nat.le_trans ((Nat.le_trans (hu17.out.size) hs25.out.size)) hs38.out.size)) hu41.out.size)) hu44.out.size))) lbb45.out))
 have h103 := (h81.up hu96.out).sto hs98.out (Nat.ne_of_lt (Nat.lt_of_lt_of_le (Nat.lt_of_lt_of_le ltb12.out ((Nat.le_trans ((Nat.le_trans ((Nat.le_trans (hs25.out.size) hs38.out.size)) hu41.out.size)) hu44.out.size))) lbb45.out))
 have h104 := (h83.up hu96.out).sto hs98.out (Nat.ne_of_lt (Nat.lt_of_lt_of_le (Nat.lt_of_lt_of_le ltb39.out (hu44.out.size)) lbb45.out))
 have h105 := (h84.up hu96.out).sto hs98.out (Nat.ne_of_lt (Nat.lt_of_lt_of_le ltb42.out lbb45.out))
 refine wpList_nil ?_
 (try simp only [Exit.then, Exit.inBlock, ↓reduceIte, Nat.reduceEqDiff])
 refine hK74 _ _ ?_
 refine wp_seq_k (fun K106 hK106 => ?_)
 have hTT_ : ∀ w_, Up (World.drew w97) w_ → (fun w_ => Blk w_ b39 [.int .i64 t27, .int .i64 t28] 30 ∧ Blk w_ b42 [.int .i64 t29, .int .i64 t30] 30 ∧ Blk w_ b45 [.int .i64 t92, .int .i64 t93] 30 ∧ True) w_ := fun w_ hu_ => ⟨h104.up ((Up.refl _).drew.trans hu_), h105.up ((Up.refl _).drew.trans hu_), hb99.up ((Up.refl _).drew.trans hu_), True.intro⟩
 refine' wp_region_mix (fun w_ => Blk w_ b39 [.int .i64 t27, .int .i64 t28] 30 ∧ Blk w_ b42 [.int .i64 t29, .int .i64 t30] 30 ∧ Blk w_ b45 [.int .i64 t92, .int .i64 t93] 30 ∧ True) [0, 1, 3, 4, 5, 6, 8, 9, 10, 12, 13, 14] [2, 7, 11, 15, 16, 17, 18, 19, 20] [Slot.pur _, Slot.pur _, Slot.pur _, Slot.pur _, Slot.pur _, Slot.pur _, Slot.pur _, Slot.pur _, Slot.pur _, Slot.pur _, Slot.pur _, Slot.pur _] (by kernel_rfl) (by kernel_rfl) rfl rfl hTT_ ?main
 case main =>
  simp only [pick, List.drop_succ_cons, List.drop_zero]
  refine wpK_pur rfl hTT_ (fun w1 hT => ?_) ?_
  · clear hT
    go_simp
    first | done | rfl
  simp only [Act.put, nm1, nm2, nm3, i64_w]
  refine wpK_pur rfl hTT_ (fun w1 hT => ?_) ?_
  · clear hT
    go_simp
    first | done | rfl
  simp only [Act.put, nm1, nm2, nm3, i64_w]
  refine wpK_pur rfl hTT_ (fun w1 hT => ?_) ?_
  · clear hT
    go_simp
    first | done | rfl
  simp only [Act.put, nm1, nm2, nm3, i64_w]
  refine wpK_pur rfl hTT_ (fun w1 hT => ?_) ?_
  · clear hT
    go_simp
    first | done | rfl
  simp only [Act.put, nm1, nm2, nm3, i64_w]
  refine wpK_pur rfl hTT_ (fun w1 hT => ?_) ?_
  · clear hT
    go_simp
    first | done | rfl
  simp only [Act.put, nm1, nm2, nm3, i64_w]
  refine wpK_pur rfl hTT_ (fun w1 hT => ?_) ?_
  · have hB_ := hT.1
    have cl0 := hB_.cell (o := 0) rfl
    have cl1 := hB_.cell (o := 1) rfl
    clear hT
    go_simp
    first | done | rfl
  simp only [Act.put, nm1, nm2, nm3, i64_w]
  refine wpK_pur rfl hTT_ (fun w1 hT => ?_) ?_
  · clear hT
    go_simp
    first | done | rfl
  simp only [Act.put, nm1, nm2, nm3, i64_w]
  refine wpK_pur rfl hTT_ (fun w1 hT => ?_) ?_
  · clear hT
    go_simp
    first | done | rfl
  simp only [Act.put, nm1, nm2, nm3, i64_w]
  refine wpK_pur rfl hTT_ (fun w1 hT => ?_) ?_
  · have hB_ := hT.2.1
    have cl0 := hB_.cell (o := 0) rfl
    have cl1 := hB_.cell (o := 1) rfl
    clear hT
    go_simp
    first | done | rfl
  simp only [Act.put, nm1, nm2, nm3, i64_w]
  refine wpK_pur rfl hTT_ (fun w1 hT => ?_) ?_
  · clear hT
    go_simp
    first | done | rfl
  simp only [Act.put, nm1, nm2, nm3, i64_w]
  refine wpK_pur rfl hTT_ (fun w1 hT => ?_) ?_
  · clear hT
    go_simp
    first | done | rfl
  simp only [Act.put, nm1, nm2, nm3, i64_w]
  refine wpK_pur rfl hTT_ (fun w1 hT => ?_) ?_
  · have hB_ := hT.2.2.1
    have cl0 := hB_.cell (o := 0) rfl
    have cl1 := hB_.cell (o := 1) rfl
    clear hT
    go_simp
    first | done | rfl
  simp only [Act.put, nm1, nm2, nm3, i64_w]
  refine wpK_nil ?_
  intro w109 hu
  replace hu := (Up.refl _).drew.trans hu
  have hu110 := Aside0.mk hu
  clear hu
  refine late_consT ⟨(h104.up hu110.out), (h105.up hu110.out), (hb99.up hu110.out), True.intro⟩ ?_
  refine step_call (wanted_none rfl) (by go_simp <;> rfl) (spec_l01BadField.calls K b12 a0_A a0_c a0 t77 t78 t19 t111 t112 t113 w109 (h103.up hu110.out) (ha0.up (((hm87.out.trans hu96.out).sto (Nat.le_trans ((Nat.le_trans ((Nat.le_trans ((Nat.le_trans ((Nat.le_trans ((Nat.le_trans ((Nat.le_trans ((Nat.le_trans (hu4.out.size) hu7.out.size)) hu10.out.size)) hu17.out.size)) hs25.out.size)) hs38.out.size)) hu41.out.size)) hu44.out.size)) lbb45.out) hs98.out).trans hu110.out)) (fun k hk hp => Nat.ne_of_lt (Nat.lt_of_lt_of_le ((ha0.up ((hu4.out.trans hu7.out).trans hu10.out)).blk_lt hp k hk) lbb12.out)) A114.out) ?_
  rintro e w115 ⟨rfl, h116, hs⟩
  have hs117 := Aside0.mk hs
  clear hs
  have h118 := (h100.up hu110.out).grow hs117.out (fun k hk e => (Ne.symm (Nat.ne_of_lt (Nat.lt_of_lt_of_le (Nat.lt_of_lt_of_le ltb2.out ((Nat.le_trans (hu7.out.size) hu10.out.size))) lbb12.out))) ((Option.some.inj hk).trans e))
  have h119 := (h101.up hu110.out).grow hs117.out (fun k hk e => (Ne.symm (Nat.ne_of_lt (Nat.lt_of_lt_of_le (Nat.lt_of_lt_of_le ltb5.out (hu10.out.size)) lbb12.out))) ((Option.some.inj hk).trans e))
  have h120 := (h102.up hu110.out).grow hs117.out (fun k hk e => (Ne.symm (Nat.ne_of_lt (Nat.lt_of_lt_of_le ltb8.out lbb12.out))) ((Option.some.inj hk).trans e))
  have h121 := (h104.up hu110.out).grow hs117.out (fun k hk e => (Nat.ne_of_lt (Nat.lt_of_lt_of_le (Nat.lt_of_lt_of_le ltb12.out ((Nat.le_trans (hs25.out.size) hs38.out.size))) lbb39.out)) ((Option.some.inj hk).trans e))
  have h122 := (h105.up hu110.out).grow hs117.out (fun k hk e => (Nat.ne_of_lt (Nat.lt_of_lt_of_le (Nat.lt_of_lt_of_le ltb12.out ((Nat.le_trans ((Nat.le_trans (hs25.out.size) hs38.out.size)) hu41.out.size))) lbb42.out)) ((Option.some.inj hk).trans e))
  have h123 := (hb99.up hu110.out).grow hs117.out (fun k hk e => (Nat.ne_of_lt (Nat.lt_of_lt_of_le (Nat.lt_of_lt_of_le ltb12.out ((Nat.le_trans ((Nat.le_trans ((Nat.le_trans (hs25.out.size) hs38.out.size)) hu41.out.size)) hu44.out.size))) lbb45.out)) ((Option.some.inj hk).trans e))
  refine ⟨_, rfl, ?_⟩
  simp only [Act.put, nm1, nm2, nm3, i64_w]
  refine wpList_nil ?_
  refine wrapQ_k ?_
  refine late_consT ⟨h121, h122, h123, True.intro⟩ ?_
  refine step_call (wanted_none rfl) (by go_simp <;> rfl) (spec_l01BadPoint.calls K b12 a0_A a0_c a0 t112 t113 t19 t27 t28 t124 t125 t126 t127 w115 h116 (ha0.up ((((hm87.out.trans hu96.out).sto (Nat.le_trans ((Nat.le_trans ((Nat.le_trans ((Nat.le_trans ((Nat.le_trans ((Nat.le_trans ((Nat.le_trans ((Nat.le_trans (hu4.out.size) hu7.out.size)) hu10.out.size)) hu17.out.size)) hs25.out.size)) hs38.out.size)) hu41.out.size)) hu44.out.size)) lbb45.out) hs98.out).trans hu110.out).grow hs117.out (fun k hk => Nat.le_trans ((Nat.le_trans ((Nat.le_trans (hu4.out.size) hu7.out.size)) hu10.out.size)) ((fun k hk => Nat.le_trans lbb12.out (Nat.le_of_eq (Option.some.inj hk))) k hk)))) (fun k hk hp => Nat.ne_of_lt (Nat.lt_of_lt_of_le ((ha0.up ((hu4.out.trans hu7.out).trans hu10.out)).blk_lt hp k hk) lbb12.out)) A128.out) ?_
  rintro e w129 ⟨rfl, h130, hs⟩
  have hs131 := Aside0.mk hs
  clear hs
  have h132 := h118.grow hs131.out (fun k hk e => (Ne.symm (Nat.ne_of_lt (Nat.lt_of_lt_of_le (Nat.lt_of_lt_of_le ltb2.out ((Nat.le_trans (hu7.out.size) hu10.out.size))) lbb12.out))) ((Option.some.inj hk).trans e))
  have h133 := h119.grow hs131.out (fun k hk e => (Ne.symm (Nat.ne_of_lt (Nat.lt_of_lt_of_le (Nat.lt_of_lt_of_le ltb5.out (hu10.out.size)) lbb12.out))) ((Option.some.inj hk).trans e))
  have h134 := h120.grow hs131.out (fun k hk e => (Ne.symm (Nat.ne_of_lt (Nat.lt_of_lt_of_le ltb8.out lbb12.out))) ((Option.some.inj hk).trans e))
  have h135 := h121.grow hs131.out (fun k hk e => (Nat.ne_of_lt (Nat.lt_of_lt_of_le (Nat.lt_of_lt_of_le ltb12.out ((Nat.le_trans (hs25.out.size) hs38.out.size))) lbb39.out)) ((Option.some.inj hk).trans e))
  have h136 := h122.grow hs131.out (fun k hk e => (Nat.ne_of_lt (Nat.lt_of_lt_of_le (Nat.lt_of_lt_of_le ltb12.out ((Nat.le_trans ((Nat.le_trans (hs25.out.size) hs38.out.size)) hu41.out.size))) lbb42.out)) ((Option.some.inj hk).trans e))
  have h137 := h123.grow hs131.out (fun k hk e => (Nat.ne_of_lt (Nat.lt_of_lt_of_le (Nat.lt_of_lt_of_le ltb12.out ((Nat.le_trans ((Nat.le_trans ((Nat.le_trans (hs25.out.size) hs38.out.size)) hu41.out.size)) hu44.out.size))) lbb45.out)) ((Option.some.inj hk).trans e))
  refine ⟨_, rfl, ?_⟩
  simp only [Act.put, nm1, nm2, nm3, i64_w]
  refine wpList_nil ?_
  refine wrapQ_k ?_
  refine late_consT ⟨h135, h136, h137, True.intro⟩ ?_
  refine step_call (wanted_none rfl) (by go_simp <;> rfl) (spec_l01BadPoint.calls K b12 a0_A a0_c a0 t126 t127 t19 t29 t30 t138 t139 t140 t141 w129 h130 (ha0.up (((((hm87.out.trans hu96.out).sto (Nat.le_trans ((Nat.le_trans ((Nat.le_trans ((Nat.le_trans ((Nat.le_trans ((Nat.le_trans ((Nat.le_trans ((Nat.le_trans (hu4.out.size) hu7.out.size)) hu10.out.size)) hu17.out.size)) hs25.out.size)) hs38.out.size)) hu41.out.size)) hu44.out.size)) lbb45.out) hs98.out).trans hu110.out).grow hs117.out (fun k hk => Nat.le_trans ((Nat.le_trans ((Nat.le_trans (hu4.out.size) hu7.out.size)) hu10.out.size)) ((fun k hk => Nat.le_trans lbb12.out (Nat.le_of_eq (Option.some.inj hk))) k hk))).grow hs131.out (fun k hk => Nat.le_trans ((Nat.le_trans ((Nat.le_trans (hu4.out.size) hu7.out.size)) hu10.out.size)) ((fun k hk => Nat.le_trans lbb12.out (Nat.le_of_eq (Option.some.inj hk))) k hk)))) (fun k hk hp => Nat.ne_of_lt (Nat.lt_of_lt_of_le ((ha0.up ((hu4.out.trans hu7.out).trans hu10.out)).blk_lt hp k hk) lbb12.out)) A142.out) ?_
  rintro e w143 ⟨rfl, h144, hs⟩
  have hs145 := Aside0.mk hs
  clear hs
  have h146 := h132.grow hs145.out (fun k hk e => (Ne.symm (Nat.ne_of_lt (Nat.lt_of_lt_of_le (Nat.lt_of_lt_of_le ltb2.out ((Nat.le_trans (hu7.out.size) hu10.out.size))) lbb12.out))) ((Option.some.inj hk).trans e))
  have h147 := h133.grow hs145.out (fun k hk e => (Ne.symm (Nat.ne_of_lt (Nat.lt_of_lt_of_le (Nat.lt_of_lt_of_le ltb5.out (hu10.out.size)) lbb12.out))) ((Option.some.inj hk).trans e))
  have h148 := h134.grow hs145.out (fun k hk e => (Ne.symm (Nat.ne_of_lt (Nat.lt_of_lt_of_le ltb8.out lbb12.out))) ((Option.some.inj hk).trans e))
  have h149 := h135.grow hs145.out (fun k hk e => (Nat.ne_of_lt (Nat.lt_of_lt_of_le (Nat.lt_of_lt_of_le ltb12.out ((Nat.le_trans (hs25.out.size) hs38.out.size))) lbb39.out)) ((Option.some.inj hk).trans e))
  have h150 := h136.grow hs145.out (fun k hk e => (Nat.ne_of_lt (Nat.lt_of_lt_of_le (Nat.lt_of_lt_of_le ltb12.out ((Nat.le_trans ((Nat.le_trans (hs25.out.size) hs38.out.size)) hu41.out.size))) lbb42.out)) ((Option.some.inj hk).trans e))
  have h151 := h137.grow hs145.out (fun k hk e => (Nat.ne_of_lt (Nat.lt_of_lt_of_le (Nat.lt_of_lt_of_le ltb12.out ((Nat.le_trans ((Nat.le_trans ((Nat.le_trans (hs25.out.size) hs38.out.size)) hu41.out.size)) hu44.out.size))) lbb45.out)) ((Option.some.inj hk).trans e))
  refine ⟨_, rfl, ?_⟩
  simp only [Act.put, nm1, nm2, nm3, i64_w]
  refine wpList_nil ?_
  refine wrapQ_k ?_
  refine late_consT ⟨h149, h150, h151, True.intro⟩ ?_
  refine step_call (wanted_none rfl) (by go_simp <;> rfl) (spec_l01BadPoint.calls K b12 a0_A a0_c a0 t140 t141 t19 t92 t93 t152 t153 t154 t155 w143 h144 (ha0.up ((((((hm87.out.trans hu96.out).sto (Nat.le_trans ((Nat.le_trans ((Nat.le_trans ((Nat.le_trans ((Nat.le_trans ((Nat.le_trans ((Nat.le_trans ((Nat.le_trans (hu4.out.size) hu7.out.size)) hu10.out.size)) hu17.out.size)) hs25.out.size)) hs38.out.size)) hu41.out.size)) hu44.out.size)) lbb45.out) hs98.out).trans hu110.out).grow hs117.out (fun k hk => Nat.le_trans ((Nat.le_trans ((Nat.le_trans (hu4.out.size) hu7.out.size)) hu10.out.size)) ((fun k hk => Nat.le_trans lbb12.out (Nat.le_of_eq (Option.some.inj hk))) k hk))).grow hs131.out (fun k hk => Nat.le_trans ((Nat.le_trans ((Nat.le_trans (hu4.out.size) hu7.out.size)) hu10.out.size)) ((fun k hk => Nat.le_trans lbb12.out (Nat.le_of_eq (Option.some.inj hk))) k hk))).grow hs145.out (fun k hk => Nat.le_trans ((Nat.le_trans ((Nat.le_trans (hu4.out.size) hu7.out.size)) hu10.out.size)) ((fun k hk => Nat.le_trans lbb12.out (Nat.le_of_eq (Option.some.inj hk))) k hk)))) (fun k hk hp => Nat.ne_of_lt (Nat.lt_of_lt_of_le ((ha0.up ((hu4.out.trans hu7.out).trans hu10.out)).blk_lt hp k hk) lbb12.out)) A156.out) ?_
  rintro e w157 ⟨rfl, h158, hs⟩
  have hs159 := Aside0.mk hs
  clear hs
  have h160 := h146.grow hs159.out (fun k hk e => (Ne.symm (Nat.ne_of_lt (Nat.lt_of_lt_of_le (Nat.lt_of_lt_of_le ltb2.out ((Nat.le_trans (hu7.out.size) hu10.out.size))) lbb12.out))) ((Option.some.inj hk).trans e))
  have h161 := h147.grow hs159.out (fun k hk e => (Ne.symm (Nat.ne_of_lt (Nat.lt_of_lt_of_le (Nat.lt_of_lt_of_le ltb5.out (hu10.out.size)) lbb12.out))) ((Option.some.inj hk).trans e))
  have h162 := h148.grow hs159.out (fun k hk e => (Ne.symm (Nat.ne_of_lt (Nat.lt_of_lt_of_le ltb8.out lbb12.out))) ((Option.some.inj hk).trans e))
  have h163 := h149.grow hs159.out (fun k hk e => (Nat.ne_of_lt (Nat.lt_of_lt_of_le (Nat.lt_of_lt_of_le ltb12.out ((Nat.le_trans (hs25.out.size) hs38.out.size))) lbb39.out)) ((Option.some.inj hk).trans e))
  have h164 := h150.grow hs159.out (fun k hk e => (Nat.ne_of_lt (Nat.lt_of_lt_of_le (Nat.lt_of_lt_of_le ltb12.out ((Nat.le_trans ((Nat.le_trans (hs25.out.size) hs38.out.size)) hu41.out.size))) lbb42.out)) ((Option.some.inj hk).trans e))
  have h165 := h151.grow hs159.out (fun k hk e => (Nat.ne_of_lt (Nat.lt_of_lt_of_le (Nat.lt_of_lt_of_le ltb12.out ((Nat.le_trans ((Nat.le_trans ((Nat.le_trans (hs25.out.size) hs38.out.size)) hu41.out.size)) hu44.out.size))) lbb45.out)) ((Option.some.inj hk).trans e))
  refine ⟨_, rfl, ?_⟩
  simp only [Act.put, nm1, nm2, nm3, i64_w]
  refine wpList_nil ?_
  refine wrapQ_k ?_
  refine late_consT ⟨h163, h164, h165, True.intro⟩ ?_
  refine wpp fun K_ h_ => ?_; go_simp; refine h_ _ _ ?_; clear h_ K_
  refine wpList_nil ?_
  refine wrapQ_k ?_
  refine late_consT ⟨h163, h164, h165, True.intro⟩ ?_
  refine wpp fun K_ h_ => ?_; go_simp; refine h_ _ _ ?_; clear h_ K_
  refine wpList_nil ?_
  refine wrapQ_k ?_
  refine late_consT ⟨h163, h164, h165, True.intro⟩ ?_
  have hB0 := h160
  have cl0 := hB0.cell (o := 0) rfl
  have fr0 := hB0.free 0
  have cl1 := hB0.cell (o := 1) rfl
  have fr1 := hB0.free 1
  refine step_store (b := b2) (cs' := [.int .i64 t124, .int .i64 t125]) (T := 30) (W' := ((w157.setCell ⟨b2, 0, none⟩ (.int .i64 t124)).setCell ⟨b2, 1, none⟩ (.int .i64 t125))) rfl rfl (by go_simp <;> rfl) (((Sto.refl _ _).setCell 0 _).setCell 1 _) (((hB0).setCell 0 _).setCell 1 _) ?_
  clear hB0 cl0 fr0 cl1 fr1
  intro w166 hs hb168
  have hs167 := Aside0.mk hs
  clear hs
  have h169 := h161.sto hs167.out (Ne.symm (Nat.ne_of_lt (Nat.lt_of_lt_of_le ltb2.out lbb5.out)))
  have h170 := h162.sto hs167.out (Ne.symm (Nat.ne_of_lt (Nat.lt_of_lt_of_le (Nat.lt_of_lt_of_le ltb2.out (hu7.out.size)) lbb8.out)))
  have h171 := h158.sto hs167.out (Ne.symm (Nat.ne_of_lt (Nat.lt_of_lt_of_le (Nat.lt_of_lt_of_le ltb2.out ((Nat.le_trans (hu7.out.size) hu10.out.size))) lbb12.out)))
  have h172 := h163.sto hs167.out (Ne.symm (Nat.ne_of_lt (Nat.lt_of_lt_of_le (Nat.lt_of_lt_of_le ltb2.out ((Nat.le_trans ((Nat.le_trans ((Nat.le_trans ((Nat.le_trans (hu7.out.size) hu10.out.size)) hu17.out.size)) hs25.out.size)) hs38.out.size))) lbb39.out)))
  have h173 := h164.sto hs167.out (Ne.symm (Nat.ne_of_lt (Nat.lt_of_lt_of_le (Nat.lt_of_lt_of_le ltb2.out ((Nat.le_trans ((Nat.le_trans ((Nat.le_trans ((Nat.le_trans ((Nat.le_trans (hu7.out.size) hu10.out.size)) hu17.out.size)) hs25.out.size)) hs38.out.size)) hu41.out.size))) lbb42.out)))
  have h174 := h165.sto hs167.out (Ne.symm (Nat.ne_of_lt (Nat.lt_of_lt_of_le (Nat.lt_of_lt_of_le ltb2.out ((Nat.le_trans ((Nat.le_trans ((Nat.le_trans ((Nat.le_trans ((Nat.le_trans ((Nat.le_trans (hu7.out.size) hu10.out.size)) hu17.out.size)) hs25.out.size)) hs38.out.size)) hu41.out.size)) hu44.out.size))) lbb45.out)))
  refine wpList_nil ?_
  refine wrapQ_k ?_
  refine late_consT ⟨h172, h173, h174, True.intro⟩ ?_
  have hB0 := h169
  have cl0 := hB0.cell (o := 0) rfl
  have fr0 := hB0.free 0
  have cl1 := hB0.cell (o := 1) rfl
  have fr1 := hB0.free 1
  refine step_store (b := b5) (cs' := [.int .i64 t138, .int .i64 t139]) (T := 30) (W' := ((w166.setCell ⟨b5, 0, none⟩ (.int .i64 t138)).setCell ⟨b5, 1, none⟩ (.int .i64 t139))) rfl rfl (by go_simp <;> rfl) (((Sto.refl _ _).setCell 0 _).setCell 1 _) (((hB0).setCell 0 _).setCell 1 _) ?_
  clear hB0 cl0 fr0 cl1 fr1
  intro w175 hs hb177
  have hs176 := Aside0.mk hs
  clear hs
  have h178 := hb168.sto hs176.out (Nat.ne_of_lt (Nat.lt_of_lt_of_le ltb2.out lbb5.out))
  have h179 := h170.sto hs176.out (Ne.symm (Nat.ne_of_lt (Nat.lt_of_lt_of_le ltb5.out lbb8.out)))
  have h180 := h171.sto hs176.out (Ne.symm (Nat.ne_of_lt (Nat.lt_of_lt_of_le (Nat.lt_of_lt_of_le ltb5.out (hu10.out.size)) lbb12.out)))
  have h181 := h172.sto hs176.out (Ne.symm (Nat.ne_of_lt (Nat.lt_of_lt_of_le (Nat.lt_of_lt_of_le ltb5.out ((Nat.le_trans ((Nat.le_trans ((Nat.le_trans (hu10.out.size) hu17.out.size)) hs25.out.size)) hs38.out.size))) lbb39.out)))
  have h182 := h173.sto hs176.out (Ne.symm (Nat.ne_of_lt (Nat.lt_of_lt_of_le (Nat.lt_of_lt_of_le ltb5.out ((Nat.le_trans ((Nat.le_trans ((Nat.le_trans ((Nat.le_trans (hu10.out.size) hu17.out.size)) hs25.out.size)) hs38.out.size)) hu41.out.size))) lbb42.out)))
  have h183 := h174.sto hs176.out (Ne.symm (Nat.ne_of_lt (Nat.lt_of_lt_of_le (Nat.lt_of_lt_of_le ltb5.out ((Nat.le_trans ((Nat.le_trans ((Nat.le_trans ((Nat.le_trans ((Nat.le_trans (hu10.out.size) hu17.out.size)) hs25.out.size)) hs38.out.size)) hu41.out.size)) hu44.out.size))) lbb45.out)))
  refine wpList_nil ?_
  refine wrapQ_k ?_
  refine late_consT ⟨h181, h182, h183, True.intro⟩ ?_
  have hB0 := h179
  have cl0 := hB0.cell (o := 0) rfl
  have fr0 := hB0.free 0
  have cl1 := hB0.cell (o := 1) rfl
  have fr1 := hB0.free 1
  refine step_store (b := b8) (cs' := [.int .i64 t152, .int .i64 t153]) (T := 30) (W' := ((w175.setCell ⟨b8, 0, none⟩ (.int .i64 t152)).setCell ⟨b8, 1, none⟩ (.int .i64 t153))) rfl rfl (by go_simp <;> rfl) (((Sto.refl _ _).setCell 0 _).setCell 1 _) (((hB0).setCell 0 _).setCell 1 _) ?_
  clear hB0 cl0 fr0 cl1 fr1
  intro w184 hs hb186
  have hs185 := Aside0.mk hs
  clear hs
  have h187 := h178.sto hs185.out (Nat.ne_of_lt (Nat.lt_of_lt_of_le (Nat.lt_of_lt_of_le ltb2.out (hu7.out.size)) lbb8.out))
  have h188 := hb177.sto hs185.out (Nat.ne_of_lt (Nat.lt_of_lt_of_le ltb5.out lbb8.out))
  have h189 := h180.sto hs185.out (Ne.symm (Nat.ne_of_lt (Nat.lt_of_lt_of_le ltb8.out lbb12.out)))
  have h190 := h181.sto hs185.out (Ne.symm (Nat.ne_of_lt (Nat.lt_of_lt_of_le (Nat.lt_of_lt_of_le ltb8.out ((Nat.le_trans ((Nat.le_trans (hu17.out.size) hs25.out.size)) hs38.out.size))) lbb39.out)))
  have h191 := h182.sto hs185.out (Ne.symm (Nat.ne_of_lt (Nat.lt_of_lt_of_le (Nat.lt_of_lt_of_le ltb8.out ((Nat.le_trans ((Nat.le_trans ((Nat.le_trans (hu17.out.size) hs25.out.size)) hs38.out.size)) hu41.out.size))) lbb42.out)))
  have h192 := h183.sto hs185.out (Ne.symm (Nat.ne_of_lt (Nat.lt_of_lt_of_le (Nat.lt_of_lt_of_le ltb8.out ((Nat.le_trans ((Nat.le_trans ((Nat.le_trans ((Nat.le_trans (hu17.out.size) hs25.out.size)) hs38.out.size)) hu41.out.size)) hu44.out.size))) lbb45.out)))
  refine wpList_nil ?_
  refine wrapQ_k ?_
  refine late_nilT ⟨h190, h191, h192, True.intro⟩ ?_
  (try simp only [Exit.then, Exit.inBlock, ↓reduceIte, Nat.reduceEqDiff])
  refine hK106 _ _ ?_
  refine wp_ret ?_
  (try simp only [Exit.then, Exit.inBlock, ↓reduceIte, Nat.reduceEqDiff])
  refine hQf _ _ _ ?_
  have cr0 := h187.cell (o := 0) rfl
  have cr1 := h187.cell (o := 1) rfl
  have cr2 := h188.cell (o := 0) rfl
  have cr3 := h188.cell (o := 1) rfl
  have cr4 := hb186.cell (o := 0) rfl
  have cr5 := hb186.cell (o := 1) rfl
  exact bodyPost_ret (v := .tuple #[.int .i64 t111, .int .i64 t64, .agg #[.int .i64 t124, .int .i64 t125], .agg #[.int .i64 t138, .int .i64 t139], .agg #[.int .i64 t152, .int .i64 t153]]) (by first | rfl | (simp [results, Try.results158, go_sem, cr0, cr1, cr2, cr3, cr4, cr5]; done) | (simp [results, Try.results158, go_sem, cr0, cr1, cr2, cr3, cr4, cr5]; rfl)) rfl ⟨rfl, ((((((((((hm87.out.trans hu96.out).sto (Nat.le_trans ((Nat.le_trans ((Nat.le_trans ((Nat.le_trans ((Nat.le_trans ((Nat.le_trans ((Nat.le_trans ((Nat.le_trans (hu4.out.size) hu7.out.size)) hu10.out.size)) hu17.out.size)) hs25.out.size)) hs38.out.size)) hu41.out.size)) hu44.out.size)) lbb45.out) hs98.out).trans hu110.out).grow hs117.out (fun k hk => Nat.le_trans ((Nat.le_trans ((Nat.le_trans (hu4.out.size) hu7.out.size)) hu10.out.size)) ((fun k hk => Nat.le_trans lbb12.out (Nat.le_of_eq (Option.some.inj hk))) k hk))).grow hs131.out (fun k hk => Nat.le_trans ((Nat.le_trans ((Nat.le_trans (hu4.out.size) hu7.out.size)) hu10.out.size)) ((fun k hk => Nat.le_trans lbb12.out (Nat.le_of_eq (Option.some.inj hk))) k hk))).grow hs145.out (fun k hk => Nat.le_trans ((Nat.le_trans ((Nat.le_trans (hu4.out.size) hu7.out.size)) hu10.out.size)) ((fun k hk => Nat.le_trans lbb12.out (Nat.le_of_eq (Option.some.inj hk))) k hk))).grow hs159.out (fun k hk => Nat.le_trans ((Nat.le_trans ((Nat.le_trans (hu4.out.size) hu7.out.size)) hu10.out.size)) ((fun k hk => Nat.le_trans lbb12.out (Nat.le_of_eq (Option.some.inj hk))) k hk))).sto (Nat.le_trans (Nat.le_refl _) lbb2.out) hs167.out).sto (Nat.le_trans (hu4.out.size) lbb5.out) hs176.out).sto (Nat.le_trans ((Nat.le_trans (hu4.out.size) hu7.out.size)) lbb8.out) hs185.out)⟩

set_option maxHeartbeats 40000000 in
set_option maxRecDepth 100000 in
theorem spec_DrawQuadreaOf.calls (K : Nat) (a0_A : Option Addr) (a0_c : Nat) (a0 : List (Int)) (r0 : Int) (r1 : Int) (r2 : Int) (r3 : Int) (r4 : Int) (r5 : Int) (r6 : Int) (r7 : Int) (w : World) (ha0 : Rd eU8 w a0_A a0) (h : spec_DrawQuadreaOf.f K a0 = some (r0, r1, r2, r3, r4, r5, r6, r7)) :
    Calls Try.prog 116 #[.slice a0_A a0.length a0_c] w fun e w' => e = .returned (.tuple #[.int .i64 r0, .int .i64 r1, .agg #[.int .i64 r2, .int .i64 r3], .agg #[.int .i64 r4, .int .i64 r5], .agg #[.int .i64 r6, .int .i64 r7]]) ∧ Up w w' := by
 have H : (((spec_l04Draw.f K a0).bind fun (t12, t13, t14, t15, t16, t17, t18, t19) => some (t12, t13, t14, t15, t16, t17, t18, t19)) : Option (Int × Int × Int × Int × Int × Int × Int × Int)) = some (r0, r1, r2, r3, r4, r5, r6, r7) := h
 clear h
 replace H := Option.bind_eq_some_iff.mp H
 obtain ⟨⟨t12, t13, t14, t15, t16, t17, t18, t19⟩, A20, H⟩ := H
 replace A20 := Aside0.mk A20
 try dsimp only at H
 simp only [Option.some.injEq, Prod.mk.injEq] at H
 obtain ⟨rfl, rfl, rfl, rfl, rfl, rfl, rfl, rfl⟩ := H
 go_enter Try.func116, Try.ntmps116
 refine wp_hide (fun Qf hQf => ?_)
 refine wp_seq_k (fun K1 hK1 => ?_)
 refine wp_region_lit ?_
 refine wpp fun K_ h_ => ?_; go_simp; refine h_ _ _ ?_; clear h_ K_
 refine wpp fun K_ h_ => ?_; go_simp; refine h_ _ _ ?_; clear h_ K_
 refine step_new (cs := [.int .i64 0, .int .i64 0]) (T := 30) (f := fun b => .pointer (some ⟨b, 0, none⟩)) rfl (by go_simp <;> rfl) ?_
 intro b2 w3 hu lb hb2
 simp only [Act.put, nm1, nm2, nm3, i64_w]
 have lbb2 := Aside0.mk lb
 have ltb2 := Aside0.mk hb2.lt
 clear lb
 have hu4 := Aside0.mk hu
 clear hu
 refine step_new (cs := [.int .i64 0, .int .i64 0]) (T := 30) (f := fun b => .pointer (some ⟨b, 0, none⟩)) rfl (by go_simp <;> rfl) ?_
 intro b5 w6 hu lb hb5
 simp only [Act.put, nm1, nm2, nm3, i64_w]
 have lbb5 := Aside0.mk lb
 have ltb5 := Aside0.mk hb5.lt
 clear lb
 have hu7 := Aside0.mk hu
 clear hu
 refine step_new (cs := [.int .i64 0, .int .i64 0]) (T := 30) (f := fun b => .pointer (some ⟨b, 0, none⟩)) rfl (by go_simp <;> rfl) ?_
 intro b8 w9 hu lb hb8
 simp only [Act.put, nm1, nm2, nm3, i64_w]
 have lbb8 := Aside0.mk lb
 have ltb8 := Aside0.mk hb8.lt
 clear lb
 have hu10 := Aside0.mk hu
 clear hu
 refine wpList_nil ?_
 (try simp only [Exit.then, Exit.inBlock, ↓reduceIte, Nat.reduceEqDiff])
 refine hK1 _ _ ?_
 refine wp_seq_k (fun K11 hK11 => ?_)
 refine wp_region_lit ?_
 refine wpp fun K_ h_ => ?_; go_simp; refine h_ _ _ ?_; clear h_ K_
 refine step_call (wanted_none rfl) (by go_simp <;> rfl) (spec_l04Draw.calls K a0_A a0_c a0 t12 t13 t14 t15 t16 t17 t18 t19 w9 (ha0.up ((hu4.out.trans hu7.out).trans hu10.out)) A20.out) ?_
 rintro e w21 ⟨rfl, hu⟩
 have hu22 := Aside0.mk hu
 clear hu
 refine ⟨_, rfl, ?_⟩
 simp only [Act.put, nm1, nm2, nm3, i64_w]
 refine wpp fun K_ h_ => ?_; go_simp; refine h_ _ _ ?_; clear h_ K_
 refine wpp fun K_ h_ => ?_; go_simp; refine h_ _ _ ?_; clear h_ K_
 refine wpp fun K_ h_ => ?_; go_simp; refine h_ _ _ ?_; clear h_ K_
 refine wpp fun K_ h_ => ?_; go_simp; refine h_ _ _ ?_; clear h_ K_
 refine wpp fun K_ h_ => ?_; go_simp; refine h_ _ _ ?_; clear h_ K_
 refine wpp fun K_ h_ => ?_; go_simp; refine h_ _ _ ?_; clear h_ K_
 refine step_new (cs := [.int .i64 0, .int .i64 0]) (T := 30) (f := fun b => .pointer (some ⟨b, 0, none⟩)) rfl (by go_simp <;> rfl) ?_
 intro b23 w24 hu lb hb23
 simp only [Act.put, nm1, nm2, nm3, i64_w]
 have lbb23 := Aside0.mk lb
 have ltb23 := Aside0.mk hb23.lt
 clear lb
 have hu25 := Aside0.mk hu
 clear hu
 refine step_new (cs := [.int .i64 0, .int .i64 0]) (T := 30) (f := fun b => .pointer (some ⟨b, 0, none⟩)) rfl (by go_simp <;> rfl) ?_
 intro b26 w27 hu lb hb26
 simp only [Act.put, nm1, nm2, nm3, i64_w]
 have lbb26 := Aside0.mk lb
 have ltb26 := Aside0.mk hb26.lt
 clear lb
 have hu28 := Aside0.mk hu
 clear hu
 refine step_new (cs := [.int .i64 0, .int .i64 0]) (T := 30) (f := fun b => .pointer (some ⟨b, 0, none⟩)) rfl (by go_simp <;> rfl) ?_
 intro b29 w30 hu lb hb29
 simp only [Act.put, nm1, nm2, nm3, i64_w]
 have lbb29 := Aside0.mk lb
 have ltb29 := Aside0.mk hb29.lt
 clear lb
 have hu31 := Aside0.mk hu
 clear hu
 refine wpp fun K_ h_ => ?_; go_simp; refine h_ _ _ ?_; clear h_ K_
 refine wpp fun K_ h_ => ?_; go_simp; refine h_ _ _ ?_; clear h_ K_
 have hB0 := (hb23.up (hu28.out.trans hu31.out))
 have cl0 := hB0.cell (o := 0) rfl
 have fr0 := hB0.free 0
 have cl1 := hB0.cell (o := 1) rfl
 have fr1 := hB0.free 1
 refine step_store (b := b23) (cs' := [.int .i64 t14, .int .i64 t15]) (T := 30) (W' := ((w30.setCell ⟨b23, 0, none⟩ (.int .i64 t14)).setCell ⟨b23, 1, none⟩ (.int .i64 t15))) rfl rfl (by go_simp <;> rfl) (((Sto.refl _ _).setCell 0 _).setCell 1 _) (((hB0).setCell 0 _).setCell 1 _) ?_
 clear hB0 cl0 fr0 cl1 fr1
 intro w32 hs hb34
 have hs33 := Aside0.mk hs
 clear hs
 have h35 := (hb26.up hu31.out).sto hs33.out (Ne.symm (Nat.ne_of_lt (Nat.lt_of_lt_of_le ltb23.out lbb26.out)))
 have h36 := hb29.sto hs33.out (Ne.symm (Nat.ne_of_lt (Nat.lt_of_lt_of_le (Nat.lt_of_lt_of_le ltb23.out (hu28.out.size)) lbb29.out)))
 have hB0 := h35
 have cl0 := hB0.cell (o := 0) rfl
 have fr0 := hB0.free 0
 have cl1 := hB0.cell (o := 1) rfl
 have fr1 := hB0.free 1
 refine step_store (b := b26) (cs' := [.int .i64 t16, .int .i64 t17]) (T := 30) (W' := ((w32.setCell ⟨b26, 0, none⟩ (.int .i64 t16)).setCell ⟨b26, 1, none⟩ (.int .i64 t17))) rfl rfl (by go_simp <;> rfl) (((Sto.refl _ _).setCell 0 _).setCell 1 _) (((hB0).setCell 0 _).setCell 1 _) ?_
 clear hB0 cl0 fr0 cl1 fr1
 intro w37 hs hb39
 have hs38 := Aside0.mk hs
 clear hs
 have h40 := hb34.sto hs38.out (Nat.ne_of_lt (Nat.lt_of_lt_of_le ltb23.out lbb26.out))
 have h41 := h36.sto hs38.out (Ne.symm (Nat.ne_of_lt (Nat.lt_of_lt_of_le ltb26.out lbb29.out)))
 have hB0 := h41
 have cl0 := hB0.cell (o := 0) rfl
 have fr0 := hB0.free 0
 have cl1 := hB0.cell (o := 1) rfl
 have fr1 := hB0.free 1
 refine step_store (b := b29) (cs' := [.int .i64 t18, .int .i64 t19]) (T := 30) (W' := ((w37.setCell ⟨b29, 0, none⟩ (.int .i64 t18)).setCell ⟨b29, 1, none⟩ (.int .i64 t19))) rfl rfl (by go_simp <;> rfl) (((Sto.refl _ _).setCell 0 _).setCell 1 _) (((hB0).setCell 0 _).setCell 1 _) ?_
 clear hB0 cl0 fr0 cl1 fr1
 intro w42 hs hb44
 have hs43 := Aside0.mk hs
 clear hs
 have h45 := h40.sto hs43.out (Nat.ne_of_lt (Nat.lt_of_lt_of_le (Nat.lt_of_lt_of_le ltb23.out (hu28.out.size)) lbb29.out))
 have h46 := hb39.sto hs43.out (Nat.ne_of_lt (Nat.lt_of_lt_of_le ltb26.out lbb29.out))
 refine wpList_nil ?_
 (try simp only [Exit.then, Exit.inBlock, ↓reduceIte, Nat.reduceEqDiff])
 refine hK11 _ _ ?_
 refine wp_seq_k (fun K47 hK47 => ?_)
 have hTT_ : ∀ w_, Up (World.drew w42) w_ → (fun w_ => Blk w_ b23 [.int .i64 t14, .int .i64 t15] 30 ∧ Blk w_ b26 [.int .i64 t16, .int .i64 t17] 30 ∧ Blk w_ b29 [.int .i64 t18, .int .i64 t19] 30 ∧ True) w_ := fun w_ hu_ => ⟨h45.up ((Up.refl _).drew.trans hu_), h46.up ((Up.refl _).drew.trans hu_), hb44.up ((Up.refl _).drew.trans hu_), True.intro⟩
 refine' wp_region_mix (fun w_ => Blk w_ b23 [.int .i64 t14, .int .i64 t15] 30 ∧ Blk w_ b26 [.int .i64 t16, .int .i64 t17] 30 ∧ Blk w_ b29 [.int .i64 t18, .int .i64 t19] 30 ∧ True) [0, 1, 2, 3, 4] [5, 6, 7, 8, 9] [Slot.pur _, Slot.pur _, Slot.pur _, Slot.pur _, Slot.pur _] (by kernel_rfl) (by kernel_rfl) rfl rfl hTT_ ?main
 case main =>
  simp only [pick, List.drop_succ_cons, List.drop_zero]
  refine wpK_pur rfl hTT_ (fun w1 hT => ?_) ?_
  · clear hT
    go_simp
    first | done | rfl
  simp only [Act.put, nm1, nm2, nm3, i64_w]
  refine wpK_pur rfl hTT_ (fun w1 hT => ?_) ?_
  · clear hT
    go_simp
    first | done | rfl
  simp only [Act.put, nm1, nm2, nm3, i64_w]
  refine wpK_pur rfl hTT_ (fun w1 hT => ?_) ?_
  · have hB_ := hT.1
    have cl0 := hB_.cell (o := 0) rfl
    have cl1 := hB_.cell (o := 1) rfl
    clear hT
    go_simp
    first | done | rfl
  simp only [Act.put, nm1, nm2, nm3, i64_w]
  refine wpK_pur rfl hTT_ (fun w1 hT => ?_) ?_
  · have hB_ := hT.2.1
    have cl0 := hB_.cell (o := 0) rfl
    have cl1 := hB_.cell (o := 1) rfl
    clear hT
    go_simp
    first | done | rfl
  simp only [Act.put, nm1, nm2, nm3, i64_w]
  refine wpK_pur rfl hTT_ (fun w1 hT => ?_) ?_
  · have hB_ := hT.2.2.1
    have cl0 := hB_.cell (o := 0) rfl
    have cl1 := hB_.cell (o := 1) rfl
    clear hT
    go_simp
    first | done | rfl
  simp only [Act.put, nm1, nm2, nm3, i64_w]
  refine wpK_nil ?_
  intro w48 hu
  replace hu := (Up.refl _).drew.trans hu
  have hu49 := Aside0.mk hu
  clear hu
  refine late_consT ⟨(h45.up hu49.out), (h46.up hu49.out), (hb44.up hu49.out), True.intro⟩ ?_
  refine wpp fun K_ h_ => ?_; go_simp; refine h_ _ _ ?_; clear h_ K_
  refine wpList_nil ?_
  refine wrapQ_k ?_
  refine late_consT ⟨(h45.up hu49.out), (h46.up hu49.out), (hb44.up hu49.out), True.intro⟩ ?_
  refine wpp fun K_ h_ => ?_; go_simp; refine h_ _ _ ?_; clear h_ K_
  refine wpList_nil ?_
  refine wrapQ_k ?_
  refine late_consT ⟨(h45.up hu49.out), (h46.up hu49.out), (hb44.up hu49.out), True.intro⟩ ?_
  have hB0 := (hb2.up (((((((((hu7.out.trans hu10.out).trans hu22.out).trans hu25.out).trans hu28.out).trans hu31.out).sto (Nat.le_trans ((Nat.le_trans ((Nat.le_trans (hu7.out.size) hu10.out.size)) hu22.out.size)) lbb23.out) hs33.out).sto (Nat.le_trans ((Nat.le_trans ((Nat.le_trans ((Nat.le_trans (hu7.out.size) hu10.out.size)) hu22.out.size)) hu25.out.size)) lbb26.out) hs38.out).sto (Nat.le_trans ((Nat.le_trans ((Nat.le_trans ((Nat.le_trans ((Nat.le_trans (hu7.out.size) hu10.out.size)) hu22.out.size)) hu25.out.size)) hu28.out.size)) lbb29.out) hs43.out).trans hu49.out))
  have cl0 := hB0.cell (o := 0) rfl
  have fr0 := hB0.free 0
  have cl1 := hB0.cell (o := 1) rfl
  have fr1 := hB0.free 1
  refine step_store (b := b2) (cs' := [.int .i64 t14, .int .i64 t15]) (T := 30) (W' := ((w48.setCell ⟨b2, 0, none⟩ (.int .i64 t14)).setCell ⟨b2, 1, none⟩ (.int .i64 t15))) rfl rfl (by go_simp <;> rfl) (((Sto.refl _ _).setCell 0 _).setCell 1 _) (((hB0).setCell 0 _).setCell 1 _) ?_
  clear hB0 cl0 fr0 cl1 fr1
  intro w50 hs hb52
  have hs51 := Aside0.mk hs
  clear hs
  have h53 := (hb5.up ((((((((hu10.out.trans hu22.out).trans hu25.out).trans hu28.out).trans hu31.out).sto (Nat.le_trans ((Nat.le_trans (hu10.out.size) hu22.out.size)) lbb23.out) hs33.out).sto (Nat.le_trans ((Nat.le_trans ((Nat.le_trans (hu10.out.size) hu22.out.size)) hu25.out.size)) lbb26.out) hs38.out).sto (Nat.le_trans ((Nat.le_trans ((Nat.le_trans ((Nat.le_trans (hu10.out.size) hu22.out.size)) hu25.out.size)) hu28.out.size)) lbb29.out) hs43.out).trans hu49.out)).sto hs51.out (Ne.symm (Nat.ne_of_lt (Nat.lt_of_lt_of_le ltb2.out lbb5.out)))
  have h54 := (hb8.up (((((((hu22.out.trans hu25.out).trans hu28.out).trans hu31.out).sto (Nat.le_trans (hu22.out.size) lbb23.out) hs33.out).sto (Nat.le_trans ((Nat.le_trans (hu22.out.size) hu25.out.size)) lbb26.out) hs38.out).sto (Nat.le_trans ((Nat.le_trans ((Nat.le_trans (hu22.out.size) hu25.out.size)) hu28.out.size)) lbb29.out) hs43.out).trans hu49.out)).sto hs51.out (Ne.symm (Nat.ne_of_lt (Nat.lt_of_lt_of_le (Nat.lt_of_lt_of_le ltb2.out (hu7.out.size)) lbb8.out)))
  have h55 := (h45.up hu49.out).sto hs51.out (Ne.symm (Nat.ne_of_lt (Nat.lt_of_lt_of_le (Nat.lt_of_lt_of_le ltb2.out ((Nat.le_trans ((Nat.le_trans (hu7.out.size) hu10.out.size)) hu22.out.size))) lbb23.out)))
  have h56 := (h46.up hu49.out).sto hs51.out (Ne.symm (Nat.ne_of_lt (Nat.lt_of_lt_of_le (Nat.lt_of_lt_of_le ltb2.out ((Nat.le_trans ((Nat.le_trans ((Nat.le_trans (hu7.out.size) hu10.out.size)) hu22.out.size)) hu25.out.size))) lbb26.out)))
  have h57 := (hb44.up hu49.out).sto hs51.out (Ne.symm (Nat.ne_of_lt (Nat.lt_of_lt_of_le (Nat.lt_of_lt_of_le ltb2.out ((Nat.le_trans ((Nat.le_trans ((Nat.le_trans ((Nat.le_trans (hu7.out.size) hu10.out.size)) hu22.out.size)) hu25.out.size)) hu28.out.size))) lbb29.out)))
  refine wpList_nil ?_
  refine wrapQ_k ?_
  refine late_consT ⟨h55, h56, h57, True.intro⟩ ?_
  have hB0 := h53
  have cl0 := hB0.cell (o := 0) rfl
  have fr0 := hB0.free 0
  have cl1 := hB0.cell (o := 1) rfl
  have fr1 := hB0.free 1
  refine step_store (b := b5) (cs' := [.int .i64 t16, .int .i64 t17]) (T := 30) (W' := ((w50.setCell ⟨b5, 0, none⟩ (.int .i64 t16)).setCell ⟨b5, 1, none⟩ (.int .i64 t17))) rfl rfl (by go_simp <;> rfl) (((Sto.refl _ _).setCell 0 _).setCell 1 _) (((hB0).setCell 0 _).setCell 1 _) ?_
  clear hB0 cl0 fr0 cl1 fr1
  intro w58 hs hb60
  have hs59 := Aside0.mk hs
  clear hs
  have h61 := hb52.sto hs59.out (Nat.ne_of_lt (Nat.lt_of_lt_of_le ltb2.out lbb5.out))
  have h62 := h54.sto hs59.out (Ne.symm (Nat.ne_of_lt (Nat.lt_of_lt_of_le ltb5.out lbb8.out)))
  have h63 := h55.sto hs59.out (Ne.symm (Nat.ne_of_lt (Nat.lt_of_lt_of_le (Nat.lt_of_lt_of_le ltb5.out ((Nat.le_trans (hu10.out.size) hu22.out.size))) lbb23.out)))
  have h64 := h56.sto hs59.out (Ne.symm (Nat.ne_of_lt (Nat.lt_of_lt_of_le (Nat.lt_of_lt_of_le ltb5.out ((Nat.le_trans ((Nat.le_trans (hu10.out.size) hu22.out.size)) hu25.out.size))) lbb26.out)))
  have h65 := h57.sto hs59.out (Ne.symm (Nat.ne_of_lt (Nat.lt_of_lt_of_le (Nat.lt_of_lt_of_le ltb5.out ((Nat.le_trans ((Nat.le_trans ((Nat.le_trans (hu10.out.size) hu22.out.size)) hu25.out.size)) hu28.out.size))) lbb29.out)))
  refine wpList_nil ?_
  refine wrapQ_k ?_
  refine late_consT ⟨h63, h64, h65, True.intro⟩ ?_
  have hB0 := h62
  have cl0 := hB0.cell (o := 0) rfl
  have fr0 := hB0.free 0
  have cl1 := hB0.cell (o := 1) rfl
  have fr1 := hB0.free 1
  refine step_store (b := b8) (cs' := [.int .i64 t18, .int .i64 t19]) (T := 30) (W' := ((w58.setCell ⟨b8, 0, none⟩ (.int .i64 t18)).setCell ⟨b8, 1, none⟩ (.int .i64 t19))) rfl rfl (by go_simp <;> rfl) (((Sto.refl _ _).setCell 0 _).setCell 1 _) (((hB0).setCell 0 _).setCell 1 _) ?_
  clear hB0 cl0 fr0 cl1 fr1
  intro w66 hs hb68
  have hs67 := Aside0.mk hs
  clear hs
  have h69 := h61.sto hs67.out (Nat.ne_of_lt (Nat.lt_of_lt_of_le (Nat.lt_of_lt_of_le ltb2.out (hu7.out.size)) lbb8.out))
  have h70 := hb60.sto hs67.out (Nat.ne_of_lt (Nat.lt_of_lt_of_le ltb5.out lbb8.out))
  have h71 := h63.sto hs67.out (Ne.symm (Nat.ne_of_lt (Nat.lt_of_lt_of_le (Nat.lt_of_lt_of_le ltb8.out (hu22.out.size)) lbb23.out)))
  have h72 := h64.sto hs67.out (Ne.symm (Nat.ne_of_lt (Nat.lt_of_lt_of_le (Nat.lt_of_lt_of_le ltb8.out ((Nat.le_trans (hu22.out.size) hu25.out.size))) lbb26.out)))
  have h73 := h65.sto hs67.out (Ne.symm (Nat.ne_of_lt (Nat.lt_of_lt_of_le (Nat.lt_of_lt_of_le ltb8.out ((Nat.le_trans ((Nat.le_trans (hu22.out.size) hu25.out.size)) hu28.out.size))) lbb29.out)))
  refine wpList_nil ?_
  refine wrapQ_k ?_
  refine late_nilT ⟨h71, h72, h73, True.intro⟩ ?_
  (try simp only [Exit.then, Exit.inBlock, ↓reduceIte, Nat.reduceEqDiff])
  refine hK47 _ _ ?_
  refine wp_ret ?_
  (try simp only [Exit.then, Exit.inBlock, ↓reduceIte, Nat.reduceEqDiff])
  refine hQf _ _ _ ?_
  have cr0 := h69.cell (o := 0) rfl
  have cr1 := h69.cell (o := 1) rfl
  have cr2 := h70.cell (o := 0) rfl
  have cr3 := h70.cell (o := 1) rfl
  have cr4 := hb68.cell (o := 0) rfl
  have cr5 := hb68.cell (o := 1) rfl
  exact bodyPost_ret (v := .tuple #[.int .i64 t12, .int .i64 t13, .agg #[.int .i64 t14, .int .i64 t15], .agg #[.int .i64 t16, .int .i64 t17], .agg #[.int .i64 t18, .int .i64 t19]]) (by first | rfl | (simp [results, Try.results116, go_sem, cr0, cr1, cr2, cr3, cr4, cr5]; done) | (simp [results, Try.results116, go_sem, cr0, cr1, cr2, cr3, cr4, cr5]; rfl)) rfl ⟨rfl, (((((((((((((hu4.out.trans hu7.out).trans hu10.out).trans hu22.out).trans hu25.out).trans hu28.out).trans hu31.out).sto (Nat.le_trans ((Nat.le_trans ((Nat.le_trans ((Nat.le_trans (hu4.out.size) hu7.out.size)) hu10.out.size)) hu22.out.size)) lbb23.out) hs33.out).sto (Nat.le_trans ((Nat.le_trans ((Nat.le_trans ((Nat.le_trans ((Nat.le_trans (hu4.out.size) hu7.out.size)) hu10.out.size)) hu22.out.size)) hu25.out.size)) lbb26.out) hs38.out).sto (Nat.le_trans ((Nat.le_trans ((Nat.le_trans ((Nat.le_trans ((Nat.le_trans ((Nat.le_trans (hu4.out.size) hu7.out.size)) hu10.out.size)) hu22.out.size)) hu25.out.size)) hu28.out.size)) lbb29.out) hs43.out).trans hu49.out).sto (Nat.le_trans (Nat.le_refl _) lbb2.out) hs51.out).sto (Nat.le_trans (hu4.out.size) lbb5.out) hs59.out).sto (Nat.le_trans ((Nat.le_trans (hu4.out.size) hu7.out.size)) lbb8.out) hs67.out)⟩

set_option maxHeartbeats 40000000 in
set_option maxRecDepth 100000 in
theorem spec_DrawOrthocentreOf.calls (K : Nat) (a0_A : Option Addr) (a0_c : Nat) (a0 : List (Int)) (r0 : Int) (r1 : Int) (r2 : Int) (r3 : Int) (r4 : Int) (r5 : Int) (r6 : Int) (r7 : Int) (w : World) (ha0 : Rd eU8 w a0_A a0) (h : spec_DrawOrthocentreOf.f K a0 = some (r0, r1, r2, r3, r4, r5, r6, r7)) :
    Calls Try.prog 34 #[.slice a0_A a0.length a0_c] w fun e w' => e = .returned (.tuple #[.int .i64 r0, .int .i64 r1, .agg #[.int .i64 r2, .int .i64 r3], .agg #[.int .i64 r4, .int .i64 r5], .agg #[.int .i64 r6, .int .i64 r7]]) ∧ Up w w' := by
 have H : (((spec_DrawQuadreaOf.f K a0).bind fun (t12, t13, t14, t15, t16, t17, t18, t19) => some (t12, t13, t14, t15, t16, t17, t18, t19)) : Option (Int × Int × Int × Int × Int × Int × Int × Int)) = some (r0, r1, r2, r3, r4, r5, r6, r7) := h
 clear h
 replace H := Option.bind_eq_some_iff.mp H
 obtain ⟨⟨t12, t13, t14, t15, t16, t17, t18, t19⟩, A20, H⟩ := H
 replace A20 := Aside0.mk A20
 try dsimp only at H
 simp only [Option.some.injEq, Prod.mk.injEq] at H
 obtain ⟨rfl, rfl, rfl, rfl, rfl, rfl, rfl, rfl⟩ := H
 go_enter Try.func34, Try.ntmps34
 refine wp_hide (fun Qf hQf => ?_)
 refine wp_seq_k (fun K1 hK1 => ?_)
 refine wp_region_lit ?_
 refine wpp fun K_ h_ => ?_; go_simp; refine h_ _ _ ?_; clear h_ K_
 refine wpp fun K_ h_ => ?_; go_simp; refine h_ _ _ ?_; clear h_ K_
 refine step_new (cs := [.int .i64 0, .int .i64 0]) (T := 30) (f := fun b => .pointer (some ⟨b, 0, none⟩)) rfl (by go_simp <;> rfl) ?_
 intro b2 w3 hu lb hb2
 simp only [Act.put, nm1, nm2, nm3, i64_w]
 have lbb2 := Aside0.mk lb
 have ltb2 := Aside0.mk hb2.lt
 clear lb
 have hu4 := Aside0.mk hu
 clear hu
 refine step_new (cs := [.int .i64 0, .int .i64 0]) (T := 30) (f := fun b => .pointer (some ⟨b, 0, none⟩)) rfl (by go_simp <;> rfl) ?_
 intro b5 w6 hu lb hb5
 simp only [Act.put, nm1, nm2, nm3, i64_w]
 have lbb5 := Aside0.mk lb
 have ltb5 := Aside0.mk hb5.lt
 clear lb
 have hu7 := Aside0.mk hu
 clear hu
 refine step_new (cs := [.int .i64 0, .int .i64 0]) (T := 30) (f := fun b => .pointer (some ⟨b, 0, none⟩)) rfl (by go_simp <;> rfl) ?_
 intro b8 w9 hu lb hb8
 simp only [Act.put, nm1, nm2, nm3, i64_w]
 have lbb8 := Aside0.mk lb
 have ltb8 := Aside0.mk hb8.lt
 clear lb
 have hu10 := Aside0.mk hu
 clear hu
 refine wpList_nil ?_
 (try simp only [Exit.then, Exit.inBlock, ↓reduceIte, Nat.reduceEqDiff])
 refine hK1 _ _ ?_
 refine wp_seq_k (fun K11 hK11 => ?_)
 refine wp_region_lit ?_
 refine wpp fun K_ h_ => ?_; go_simp; refine h_ _ _ ?_; clear h_ K_
 refine step_call (wanted_none rfl) (by go_simp <;> rfl) (spec_DrawQuadreaOf.calls K a0_A a0_c a0 t12 t13 t14 t15 t16 t17 t18 t19 w9 (ha0.up ((hu4.out.trans hu7.out).trans hu10.out)) A20.out) ?_
 rintro e w21 ⟨rfl, hu⟩
 have hu22 := Aside0.mk hu
 clear hu
 refine ⟨_, rfl, ?_⟩
 simp only [Act.put, nm1, nm2, nm3, i64_w]
 refine wpp fun K_ h_ => ?_; go_simp; refine h_ _ _ ?_; clear h_ K_
 refine wpp fun K_ h_ => ?_; go_simp; refine h_ _ _ ?_; clear h_ K_
 refine wpp fun K_ h_ => ?_; go_simp; refine h_ _ _ ?_; clear h_ K_
 refine wpp fun K_ h_ => ?_; go_simp; refine h_ _ _ ?_; clear h_ K_
 refine wpp fun K_ h_ => ?_; go_simp; refine h_ _ _ ?_; clear h_ K_
 refine wpp fun K_ h_ => ?_; go_simp; refine h_ _ _ ?_; clear h_ K_
 refine wpp fun K_ h_ => ?_; go_simp; refine h_ _ _ ?_; clear h_ K_
 have hB0 := (hb2.up ((hu7.out.trans hu10.out).trans hu22.out))
 have cl0 := hB0.cell (o := 0) rfl
 have fr0 := hB0.free 0
 have cl1 := hB0.cell (o := 1) rfl
 have fr1 := hB0.free 1
 refine step_store (b := b2) (cs' := [.int .i64 t14, .int .i64 t15]) (T := 30) (W' := ((w21.setCell ⟨b2, 0, none⟩ (.int .i64 t14)).setCell ⟨b2, 1, none⟩ (.int .i64 t15))) rfl rfl (by go_simp <;> rfl) (((Sto.refl _ _).setCell 0 _).setCell 1 _) (((hB0).setCell 0 _).setCell 1 _) ?_
 clear hB0 cl0 fr0 cl1 fr1
 intro w23 hs hb25
 have hs24 := Aside0.mk hs
 clear hs
 have h26 := (hb5.up (hu10.out.trans hu22.out)).sto hs24.out (Ne.symm (Nat.ne_of_lt (Nat.lt_of_lt_of_le ltb2.out lbb5.out)))
 have h27 := (hb8.up hu22.out).sto hs24.out (Ne.symm (Nat.ne_of_lt (Nat.lt_of_lt_of_le (Nat.lt_of_lt_of_le ltb2.out (hu7.out.size)) lbb8.out)))
 have hB0 := h26
 have cl0 := hB0.cell (o := 0) rfl
 have fr0 := hB0.free 0
 have cl1 := hB0.cell (o := 1) rfl
 have fr1 := hB0.free 1
 refine step_store (b := b5) (cs' := [.int .i64 t16, .int .i64 t17]) (T := 30) (W' := ((w23.setCell ⟨b5, 0, none⟩ (.int .i64 t16)).setCell ⟨b5, 1, none⟩ (.int .i64 t17))) rfl rfl (by go_simp <;> rfl) (((Sto.refl _ _).setCell 0 _).setCell 1 _) (((hB0).setCell 0 _).setCell 1 _) ?_
 clear hB0 cl0 fr0 cl1 fr1
 intro w28 hs hb30
 have hs29 := Aside0.mk hs
 clear hs
 have h31 := hb25.sto hs29.out (Nat.ne_of_lt (Nat.lt_of_lt_of_le ltb2.out lbb5.out))
 have h32 := h27.sto hs29.out (Ne.symm (Nat.ne_of_lt (Nat.lt_of_lt_of_le ltb5.out lbb8.out)))
 have hB0 := h32
 have cl0 := hB0.cell (o := 0) rfl
 have fr0 := hB0.free 0
 have cl1 := hB0.cell (o := 1) rfl
 have fr1 := hB0.free 1
 refine step_store (b := b8) (cs' := [.int .i64 t18, .int .i64 t19]) (T := 30) (W' := ((w28.setCell ⟨b8, 0, none⟩ (.int .i64 t18)).setCell ⟨b8, 1, none⟩ (.int .i64 t19))) rfl rfl (by go_simp <;> rfl) (((Sto.refl _ _).setCell 0 _).setCell 1 _) (((hB0).setCell 0 _).setCell 1 _) ?_
 clear hB0 cl0 fr0 cl1 fr1
 intro w33 hs hb35
 have hs34 := Aside0.mk hs
 clear hs
 have h36 := h31.sto hs34.out (Nat.ne_of_lt (Nat.lt_of_lt_of_le (Nat.lt_of_lt_of_le ltb2.out (hu7.out.size)) lbb8.out))
 have h37 := hb30.sto hs34.out (Nat.ne_of_lt (Nat.lt_of_lt_of_le ltb5.out lbb8.out))
 refine wpList_nil ?_
 (try simp only [Exit.then, Exit.inBlock, ↓reduceIte, Nat.reduceEqDiff])
 refine hK11 _ _ ?_
 refine wp_ret ?_
 (try simp only [Exit.then, Exit.inBlock, ↓reduceIte, Nat.reduceEqDiff])
 refine hQf _ _ _ ?_
 have cr0 := h36.cell (o := 0) rfl
 have cr1 := h36.cell (o := 1) rfl
 have cr2 := h37.cell (o := 0) rfl
 have cr3 := h37.cell (o := 1) rfl
 have cr4 := hb35.cell (o := 0) rfl
 have cr5 := hb35.cell (o := 1) rfl
 exact bodyPost_ret (v := .tuple #[.int .i64 t12, .int .i64 t13, .agg #[.int .i64 t14, .int .i64 t15], .agg #[.int .i64 t16, .int .i64 t17], .agg #[.int .i64 t18, .int .i64 t19]]) (by first | rfl | (simp [results, Try.results34, go_sem, cr0, cr1, cr2, cr3, cr4, cr5]; done) | (simp [results, Try.results34, go_sem, cr0, cr1, cr2, cr3, cr4, cr5]; rfl)) rfl ⟨rfl, ((((((hu4.out.trans hu7.out).trans hu10.out).trans hu22.out).sto (Nat.le_trans (Nat.le_refl _) lbb2.out) hs24.out).sto (Nat.le_trans (hu4.out.size) lbb5.out) hs29.out).sto (Nat.le_trans ((Nat.le_trans (hu4.out.size) hu7.out.size)) lbb8.out) hs34.out)⟩

end Go.Proofs.Ytccbmdpikalpfaa
