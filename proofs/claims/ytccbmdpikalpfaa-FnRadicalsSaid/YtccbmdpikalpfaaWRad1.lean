/- The walks: each of these functions of the program computes what its plain function says: laws_big, spec_l01From, spec_l01Next, spec_l01Pick, spec_l01DrawField, spec_l01DrawPoint, spec_l06DrawOf, spec_l02DrawColour, spec_l01BadField, spec_l01BadPoint, spec_l06Bad, spec_l06Two, spec_DrawRadicalLine, impl_IsField, impl_isColour, impl_isNumber, impl_areNumbers, impl_isPoint, impl_isCircle, impl_RadicalLine_1, impl_asked__impl_RadicalLine_1, impl_rest, impl_less, impl_product, impl_quadrance, impl_power, impl_RadicalLine_2, impl_inverse, impl_divide, impl_makeLine, impl_RadicalLine, spec_l01In, spec_l01Field, spec_l01Point, spec_l01Code, spec_l02Colour, spec_l02Code. -/
import Derived.Test.YtccbmdpikalpfaaProg
import Derived.Test.YtccbmdpikalpfaaD1
import Derived.WalkKit
import Derived.KernelRfl
import Derived.BigQuiet
import Derived.Deep.LoopGhost
import Derived.Laws.StructEq
namespace Go.Proofs.Ytccbmdpikalpfaa
open Go Go.RowKit
attribute [local go_sem] Oper.quiet Oper.quietAt Oper.quietUpon Act.put nm1 nm2 nm3 i64_w run_max2 run_min2 mkT_getD mkT_get mkT_set lookT_cons lookT_nil
attribute [local irreducible] wpList
set_option linter.unusedVariables false
set_option linter.unusedSimpArgs false

theorem eqD30 (a0 a1 b0 b1 : Int) (d : Nat) (w : World) : (Op.equalIn (d + 2) 30 (.agg #[.int .i64 a0, .int .i64 a1]) (.agg #[.int .i64 b0, .int .i64 b1])).run Try.prog w = .ok (a0 == b0 && a1 == b1) w := by
  rw [Op.equalIn]
  simp only [Sem.run_bind, run_underlying Try.underlying30, Result.andThen_ok]
  simp only [Std.Legacy.Range.forIn_eq_forIn_range', Std.Legacy.Range.size, Nat.sub_zero, Nat.add_sub_cancel, Nat.div_one, List.range'_succ, List.range'_zero, List.forIn_cons, List.forIn_nil]
  go_simp
  by_cases h0 : a0 = b0 <;> by_cases h1 : a1 = b1 <;> simp [h0, h1]
theorem eqT30 (a0 a1 b0 b1 : Int) (w : World) : (Op.equalIn 10000 30 (.agg #[.int .i64 a0, .int .i64 a1]) (.agg #[.int .i64 b0, .int .i64 b1])).run Try.prog w = .ok (a0 == b0 && a1 == b1) w := eqD30 a0 a1 b0 b1 9998 w

theorem eqD34 (a0 a1 a2 b0 b1 b2 : Int) (d : Nat) (w : World) : (Op.equalIn (d + 2) 34 (.agg #[.int .i64 a0, .int .i64 a1, .int .i64 a2]) (.agg #[.int .i64 b0, .int .i64 b1, .int .i64 b2])).run Try.prog w = .ok (a0 == b0 && (a1 == b1 && a2 == b2)) w := by
  rw [Op.equalIn]
  simp only [Sem.run_bind, run_underlying Try.underlying34, Result.andThen_ok]
  simp only [Std.Legacy.Range.forIn_eq_forIn_range', Std.Legacy.Range.size, Nat.sub_zero, Nat.add_sub_cancel, Nat.div_one, List.range'_succ, List.range'_zero, List.forIn_cons, List.forIn_nil]
  go_simp
  by_cases h0 : a0 = b0 <;> by_cases h1 : a1 = b1 <;> by_cases h2 : a2 = b2 <;> simp [h0, h1, h2]
theorem eqT34 (a0 a1 a2 b0 b1 b2 : Int) (w : World) : (Op.equalIn 10000 34 (.agg #[.int .i64 a0, .int .i64 a1, .int .i64 a2]) (.agg #[.int .i64 b0, .int .i64 b1, .int .i64 b2])).run Try.prog w = .ok (a0 == b0 && (a1 == b1 && a2 == b2)) w := eqD34 a0 a1 a2 b0 b1 b2 9998 w
attribute [local go_sem] eqT30
attribute [local go_sem] eqT34

set_option maxHeartbeats 40000000 in
set_option maxRecDepth 100000 in
theorem laws_big.calls (K : Nat) (a0_A : Option Addr) (a0_c : Nat) (a0 : List (Int)) (r0 : Bool) (w : World) (ha0 : Rd eU8 w a0_A a0) (h : laws_big.f K a0 = some (r0)) :
    Calls Try.prog 7 #[.slice a0_A a0.length a0_c] w fun e w' => e = .returned (.bool r0) ∧ Up w w' := by
 have H : (some (decide (4096 < (a0.length : Int))) : Option (Bool)) = some (r0) := h
 clear h
 obtain rfl := Option.some.inj H
 go_enter Try.func7, Try.ntmps7
 refine wp_hide (fun Qf hQf => ?_)
 refine wp_seq_k fun K1 hK1=>wp_region_lit ?_
 refine wpp fun k h=>?_;go_simp;apply h;clear h k
 refine wpList_nil (hK1 _ _ ?_)
 refine wp_seq_k fun K2 hK2=>wp_region_lit ?_
 iterate 4 (refine wpp fun k h=>?_;go_simp;apply h;clear h k)
 refine wpList_nil (hK2 _ _ ?_)
 refine wp_ret ?_
 refine hQf _ _ _ ?_
 exact bodyPost_ret (v := .bool (decide (4096 < (a0.length : Int)))) (by first|rfl|simp [results, Try.results7, go_sem]<;>rfl) rfl ⟨rfl, (Up.refl _)⟩

set_option maxHeartbeats 40000000 in
set_option maxRecDepth 100000 in
theorem spec_l01From.calls (K : Nat) (a0_A : Option Addr) (a0_c : Nat) (a0 : List (Int)) (r0 : Int) (r1 : Int) (w : World) (ha0 : Rd eU8 w a0_A a0) (h : spec_l01From.f K a0 = some (r0, r1)) :
    Calls Try.prog 105 #[.slice a0_A a0.length a0_c] w fun e w' => ∃ (br : Nat), e = .returned (.pointer (some ⟨br, 0, none⟩)) ∧ Blk w' br [.slice a0_A a0.length a0_c, .int .i64 r0, .int .u64 r1] 158 ∧ Aside0 (w.heap.size ≤ br) ∧ Up w w' := by
 have H : ((spec_l01From.l0 K a0 K 0 0 (IntKind.u64.wrap (13701 + (IntKind.u64.wrap ((a0.length : Int)))))) : Option (Int × Int)) = some (r0, r1) := h
 clear h
 go_enter Try.func105, Try.ntmps105
 refine wp_hide (fun Qf hQf => ?_)
 refine wp_seq_k fun K1 hK1=>wp_region_lit ?_
 refine wpp fun k h=>?_;go_simp;apply h;clear h k
 refine wpList_nil (hK1 _ _ ?_)
 refine wp_seq_k fun K2 hK2=>wp_region_lit ?_
 iterate 6 (refine wpp fun k h=>?_;go_simp;apply h;clear h k)
 refine step_new (cs := [.slice a0_A a0.length a0_c, .int .i64 0, .int .u64 (IntKind.u64.wrap (13701 + (IntKind.u64.wrap ((a0.length : Int)))))]) (T := 158) (f := fun b => .pointer (some ⟨b, 0, none⟩)) rfl (by go_simp <;> rfl) ?_
 intro b3 w4 hu lb hb3
 simp only[Act.put,nm1,nm2,nm3]
 have lbb3 := Aside0.mk lb
 have ltb3 := Aside0.mk hb3.lt
 clear lb
 have hu5 := Aside0.mk hu
 clear hu
 refine wpp fun k h=>?_;go_simp;apply h;clear h k
 refine wpList_nil (hK2 _ _ ?_)
 refine wp_seq_k fun K6 hK6=>?_
 refine wp_seq_k fun K7 hK7=>wp_region_lit ?_
 refine wpp fun k h=>?_;go_simp;apply h;clear h k
 refine wpList_nil (hK7 _ _ ?_)
 refine wp_block ?_
 have HL14 := Aside0.mk H
 clear H
 go_loopg [4] K (fun kq v4 w' => ∃ (x8 : Int) (x9 : Int) (x10 : Int), v4 = .int .i64 x8 ∧ Aside0 (spec_l01From.l0 K a0 kq x8 x9 x10 = some (r0, r1)) ∧ Aside0 (kq ≤ K) ∧ Aside0 (Up w w') ∧ Aside0 (w4.heap.size ≤ w'.heap.size) ∧ Blk w' b3 [.slice a0_A a0.length a0_c, .int .i64 x9, .int .u64 x10] 158)
 case atStart => exact ⟨0, 0, IntKind.u64.wrap (13701 + (IntKind.u64.wrap ((a0.length : Int)))), (by first | rfl | simp), HL14, ⟨Nat.le_refl _⟩, ⟨hu5.out⟩, ⟨Nat.le_refl _⟩, hb3⟩
 case round =>
  rename_i J18 K19 hJ18 hK19
  obtain ⟨x8, x9, x10, rfl, HL20, hk17, hu12, hz13, h15⟩ := hrel
  obtain ⟨w11, rfl⟩ : ∃ wo : World, wo = wr := ⟨_, rfl⟩
  obtain ⟨k16, rfl⟩ | rfl : (∃ k, gk = k + 1) ∨ gk = 0 := by rcases gk with _ | k; exact .inr rfl; exact .inl ⟨k, rfl⟩
  case inr => exact absurd HL20.out (by simp [spec_l01From.l0])
  have H := HL20.out
  clear HL20
  rw [spec_l01From.l0] at H
  refine wp_seq_k fun K21 hK21=>?_
  refine wp_seq_k fun K22 hK22=>wp_region_lit ?_
  iterate 5 (refine wpp fun k h=>?_;go_simp;apply h;clear h k)
  by_cases c23 : (decide (x8 < (a0.length : Int))) = true
  rotate_left
  ·
   rw [if_neg c23] at H; replace c23 := Bool.eq_false_iff.mpr c23
   simp only [Option.some.injEq, Prod.mk.injEq] at H
   obtain ⟨rfl, rfl⟩ := H
   try simp only [c23, Bool.not_true, Bool.not_false]
   refine step_no rfl ?_
   simp only[Act.put,nm1,nm2,nm3]
   refine step_no rfl ?_
   simp only[Act.put,nm1,nm2,nm3]
   refine wpp fun k h=>?_;go_simp;apply h;clear h k
   refine wpList_nil (hK22 _ _ ?_)
   refine wp_cond_false rfl ?_
   refine wp_exit ?_
   refine hK6 _ _ ?_
   refine wp_seq_k fun K39 hK39=>wp_region_lit ?_
   iterate 2 (refine wpp fun k h=>?_;go_simp;apply h;clear h k)
   refine wpList_nil (hK39 _ _ ?_)
   refine wp_ret ?_
   refine hQf _ _ _ ?_
   exact bodyPost_ret (v := .pointer (some ⟨b3, 0, none⟩)) (by first|rfl|simp [results, Try.results105, go_sem]<;>rfl) rfl ⟨b3, rfl, h15, ⟨lbb3.out⟩, hu12.out⟩
  rw [if_pos c23] at H
  try simp only [c23, Bool.not_true, Bool.not_false]
  refine wpList_step fun k h=>?_;go_simp;apply h;clear h k
  refine wpList_step fun k h=>?_;go_simp;apply h;clear h k
  refine wpp fun k h=>?_;go_simp;apply h;clear h k
  refine wpList_nil (hK22 _ _ ?_)
  by_cases c24 : (decide (x8 < 4096)) = true
  rotate_left
  ·
   rw [if_neg c24] at H; replace c24 := Bool.eq_false_iff.mpr c24
   simp only [Option.some.injEq, Prod.mk.injEq] at H
   obtain ⟨rfl, rfl⟩ := H
   try simp only [c24, Bool.not_true, Bool.not_false]
   refine wp_cond_false rfl ?_
   refine wp_exit ?_
   refine hK6 _ _ ?_
   refine wp_seq_k fun K38 hK38=>wp_region_lit ?_
   iterate 2 (refine wpp fun k h=>?_;go_simp;apply h;clear h k)
   refine wpList_nil (hK38 _ _ ?_)
   refine wp_ret ?_
   refine hQf _ _ _ ?_
   exact bodyPost_ret (v := .pointer (some ⟨b3, 0, none⟩)) (by first|rfl|simp [results, Try.results105, go_sem]<;>rfl) rfl ⟨b3, rfl, h15, ⟨lbb3.out⟩, hu12.out⟩
  rw [if_pos c24] at H
  obtain ⟨t26,A27,H⟩:=Option.bind_eq_some_iff.mp H
  replace A27:=Aside0.mk A27;try dsimp only at H
  have HL37 := Aside0.mk H
  clear H
  try simp only [c24, Bool.not_true, Bool.not_false]
  refine wp_cond_true rfl ?_
  refine wp_skip ?_
  refine hK21 _ _ ?_
  refine wp_seq_k fun K25 hK25=>?_
  refine wp_block ?_
  obtain ⟨ad28, hat, he⟩ := rd_at (ha0.up hu12.out) A27.out
  have he29 := Aside0.mk he
  have hat31 := Aside0.mk hat
  clear he hat
  refine' wp_region_up 15 [Slot.det _, Slot.det _, Slot.det _, Slot.det _, Slot.det _, Slot.det _, Slot.det _, Slot.det _, Slot.det (.pointer (some ad28)), Slot.det _, Slot.det _, Slot.det _, Slot.det _, Slot.det _, Slot.det _] (by kernel_rfl) (by kernel_rfl) ?main
  case main =>
   simp only [List.take_succ_cons, List.take_zero]
   refine wpK_ops rfl (fun w1 hu => ?_) ?_
   · clear hu
     go_simp
     first | done | rfl
   simp only[Act.put,nm1,nm2,nm3]
   refine wpK_ops rfl (fun w1 hu => ?_) ?_
   · clear hu
     go_simp
     first | done | rfl
   simp only[Act.put,nm1,nm2,nm3]
   refine wpK_ops rfl (fun w1 hu => ?_) ?_
   · clear hu
     go_simp
     first | done | rfl
   simp only[Act.put,nm1,nm2,nm3]
   refine wpK_ops rfl (fun w1 hu => ?_) ?_
   · clear hu
     go_simp
     first | done | rfl
   simp only[Act.put,nm1,nm2,nm3]
   refine wpK_ops rfl (fun w1 hu => ?_) ?_
   · have cl0 := (h15.up ((Up.refl _).drew.trans hu)).cell (o := 2) rfl
     go_simp
     first | done | rfl
   simp only[Act.put,nm1,nm2,nm3]
   refine wpK_ops rfl (fun w1 hu => ?_) ?_
   · clear hu
     go_simp
     first | done | rfl
   simp only[Act.put,nm1,nm2,nm3]
   refine wpK_ops rfl (fun w1 hu => ?_) ?_
   · clear hu
     go_simp
     first | done | rfl
   simp only[Act.put,nm1,nm2,nm3]
   refine wpK_ops rfl (fun w1 hu => ?_) ?_
   · clear hu
     go_simp
     first | done | rfl
   simp only[Act.put,nm1,nm2,nm3]
   refine wpK_ops rfl (fun w1 hu => ?_) ?_
   · exact quiet_index eU8 (T := 5) rfl (by kernel_rfl) (by kernel_rfl) rfl rfl rfl hat31.out A27.out
   simp only[Act.put,nm1,nm2,nm3]
   refine wpK_ops rfl (fun w1 hu => ?_) ?_
   · have cl0 := he29.out 0 _ rfl
     rw [addr_add0] at cl0
     replace cl0 := (((Up.refl _).drew.trans hu)).kept cl0
     go_simp
     first | done | rfl
   simp only[Act.put,nm1,nm2,nm3]
   refine wpK_ops rfl (fun w1 hu => ?_) ?_
   · clear hu
     go_simp
     first | done | rfl
   simp only[Act.put,nm1,nm2,nm3]
   refine wpK_ops rfl (fun w1 hu => ?_) ?_
   · clear hu
     go_simp
     first | done | rfl
   simp only[Act.put,nm1,nm2,nm3]
   refine wpK_ops rfl (fun w1 hu => ?_) ?_
   · clear hu
     go_simp
     first | done | rfl
   simp only[Act.put,nm1,nm2,nm3]
   refine wpK_ops rfl (fun w1 hu => ?_) ?_
   · clear hu
     go_simp
     first | done | rfl
   simp only[Act.put,nm1,nm2,nm3]
   refine wpK_ops rfl (fun w1 hu => ?_) ?_
   · clear hu
     go_simp
     first | done | rfl
   simp only[Act.put,nm1,nm2,nm3]
   refine wpK_nil ?_
   intro w32 hu hap
   simp only [List.drop_succ_cons, List.drop_zero]
   replace hu := (Up.refl _).drew.trans hu
   clear hap
   have hu33 := Aside0.mk hu
   clear hu
   have hB0 := (h15.up hu33.out)
   have cl0 := hB0.cell (o := 2) rfl
   have fr0 := hB0.free 2
   refine step_store (b := b3) (cs' := [.slice a0_A a0.length a0_c, .int .i64 x9, .int .u64 (IntKind.u64.wrap ((IntKind.u64.wrap ((IntKind.u64.wrap (x10 * 1099511628211)) + (IntKind.u64.wrap (t26)))) + 199))]) (T := 158) (W' := (w32.setCell ⟨b3, 2, none⟩ (.int .u64 (IntKind.u64.wrap ((IntKind.u64.wrap ((IntKind.u64.wrap (x10 * 1099511628211)) + (IntKind.u64.wrap (t26)))) + 199))))) rfl rfl (by go_simp <;> rfl) ((Sto.refl _ _).setCell 2 _) ((hB0).setCell 2 _) ?_
   clear hB0 cl0 fr0
   intro w34 hs hb36
   have hs35 := Aside0.mk hs
   clear hs
   refine wpList_nil (hK25 _ _ ?_)
   refine wp_region_lit ?_
   iterate 3 (refine wpp fun k h=>?_;go_simp;apply h;clear h k)
   refine wpList_nil (hK19 _ _ ?_)
   go_roundg k16
   case measure => exact Nat.lt_succ_self _
   case rel => exact ⟨wrap64 (x8 + 1), x9, IntKind.u64.wrap ((IntKind.u64.wrap ((IntKind.u64.wrap (x10 * 1099511628211)) + (IntKind.u64.wrap (t26)))) + 199), (by first | rfl | simp), HL37, ⟨by have := hk17.out; omega⟩, ⟨((hu12.out.trans hu33.out).sto (Nat.le_trans (Nat.le_refl _) lbb3.out) hs35.out)⟩, ⟨(Nat.le_trans ((Nat.le_trans ((Nat.le_trans (Nat.le_refl _) hz13.out)) hu33.out.size)) (Nat.le_of_eq hs35.out.size.symm))⟩, hb36⟩

set_option maxHeartbeats 40000000 in
set_option maxRecDepth 100000 in
theorem spec_l01Next.calls (K : Nat) (ba0 : Nat) (a0_0_A : Option Addr) (a0_0_c : Nat) (a0_0 : List (Int)) (a0_1 : Int) (a0_2 : Int) (a1 : Int) (r0 : Int) (r1 : Int) (r2 : Int) (w : World) (ha0 : Blk w ba0 [.slice a0_0_A a0_0.length a0_0_c, .int .i64 a0_1, .int .u64 a0_2] 158) (ha0_0 : Rd eU8 w a0_0_A a0_0) (haa0_0 : ∀ k, blk (.slice a0_0_A a0_0.length a0_0_c) = some k → 0 < a0_0.length → k ≠ ba0) (h : spec_l01Next.f K a0_0 a0_1 a0_2 a1 = some (r0, r1, r2)) :
    Calls Try.prog 160 #[.pointer (some ⟨ba0, 0, none⟩), .int .i64 a1] w fun e w' => e = .returned (.int .i64 r0) ∧ Blk w' ba0 [.slice a0_0_A a0_0.length a0_0_c, .int .i64 r1, .int .u64 r2] 158 ∧ Grow (.pointer (some ⟨ba0, 0, none⟩)) w w' := by
 have H : ((if decide (a1 < 1) = true then some (0, a0_1, a0_2) else (if decide (a0_1 < (a0_0.length : Int)) = true then ((idx a0_0 a0_1).bind fun t18 => (if (a1 == 0) = true then none else some (Int.tmod (wrap64 ((wrap64 (bits .and .u64 ((IntKind.u64.wrap ((IntKind.u64.wrap (a0_2 * 6364136223846793005)) + 1442695040888963407)) / 8589934592) 16777215)) + (wrap64 (t18)))) a1, wrap64 (a0_1 + 1), IntKind.u64.wrap ((IntKind.u64.wrap (a0_2 * 6364136223846793005)) + 1442695040888963407)))) else (if (a1 == 0) = true then none else some (Int.tmod (wrap64 (bits .and .u64 ((IntKind.u64.wrap ((IntKind.u64.wrap (a0_2 * 6364136223846793005)) + 1442695040888963407)) / 8589934592) 16777215)) a1, a0_1, IntKind.u64.wrap ((IntKind.u64.wrap (a0_2 * 6364136223846793005)) + 1442695040888963407))))) : Option (Int × Int × Int)) = some (r0, r1, r2) := h
 clear h
 have ltba0 := Aside0.mk ha0.lt
 go_enter Try.func160, Try.ntmps160
 refine wp_hide (fun Qf hQf => ?_)
 refine wp_seq_k fun K1 hK1=>wp_region_lit ?_
 refine wpp fun k h=>?_;go_simp;apply h;clear h k
 refine wpList_nil (hK1 _ _ ?_)
 refine wp_seq_k fun K2 hK2=>?_
 refine wp_seq_k fun K3 hK3=>wp_region_lit ?_
 iterate 2 (refine wpp fun k h=>?_;go_simp;apply h;clear h k)
 refine wpList_nil (hK3 _ _ ?_)
 by_cases c4 : (decide (a1 < 1)) = true
 ·
  rw [if_pos c4] at H
  simp only [Option.some.injEq, Prod.mk.injEq] at H
  obtain ⟨rfl, rfl, rfl⟩ := H
  try simp only [c4, Bool.not_true, Bool.not_false]
  refine wp_cond_true rfl ?_
  refine wp_seq_k fun K5 hK5=>wp_region_lit ?_
  refine wpp fun k h=>?_;go_simp;apply h;clear h k
  refine wpList_nil (hK5 _ _ ?_)
  refine wp_ret ?_
  refine hQf _ _ _ ?_
  exact bodyPost_ret (v := .int .i64 0) (by first|rfl|simp [results, Try.results160, go_sem]<;>rfl) rfl ⟨rfl, ha0, (Grow.refl (.pointer (some ⟨ba0, 0, none⟩)) _)⟩
 rw [if_neg c4] at H; replace c4 := Bool.eq_false_iff.mpr c4
 try simp only [c4, Bool.not_true, Bool.not_false]
 refine wp_cond_false rfl ?_
 refine wp_skip ?_
 refine hK2 _ _ ?_
 refine wp_seq_k fun K6 hK6=>wp_region_lit ?_
 iterate 4 (refine wpp fun k h=>?_;go_simp;apply h;clear h k)
 have cl0 := ha0.cell (o := 2) rfl
 refine wpp fun k h=>?_;go_simp;apply h;clear h k
 clear cl0
 iterate 4 (refine wpp fun k h=>?_;go_simp;apply h;clear h k)
 have hB0 := ha0
 have cl0 := hB0.cell (o := 2) rfl
 have fr0 := hB0.free 2
 refine step_store (b := ba0) (cs' := [.slice a0_0_A a0_0.length a0_0_c, .int .i64 a0_1, .int .u64 (IntKind.u64.wrap ((IntKind.u64.wrap (a0_2 * 6364136223846793005)) + 1442695040888963407))]) (T := 158) (W' := (w.setCell ⟨ba0, 2, none⟩ (.int .u64 (IntKind.u64.wrap ((IntKind.u64.wrap (a0_2 * 6364136223846793005)) + 1442695040888963407))))) rfl rfl (by go_simp <;> rfl) ((Sto.refl _ _).setCell 2 _) ((hB0).setCell 2 _) ?_
 clear hB0 cl0 fr0
 intro w7 hs hb9
 have hs8 := Aside0.mk hs
 clear hs
 have h10 := ha0_0.sto hs8.out haa0_0
 refine wpList_nil (hK6 _ _ ?_)
 refine wp_seq_k fun K11 hK11=>wp_region_lit ?_
 iterate 3 (refine wpp fun k h=>?_;go_simp;apply h;clear h k)
 have cl0 := hb9.cell (o := 2) rfl
 refine wpp fun k h=>?_;go_simp;apply h;clear h k
 clear cl0
 iterate 4 (refine wpp fun k h=>?_;go_simp;apply h;clear h k)
 refine wpList_nil (hK11 _ _ ?_)
 refine wp_seq_k fun K12 hK12=>?_
 refine wp_seq_k fun K13 hK13=>?_
 refine' wp_region_up 10 [Slot.det _, Slot.det _, Slot.det _, Slot.det _, Slot.det _, Slot.det _, Slot.det _, Slot.det _, Slot.det _, Slot.det _] (by kernel_rfl) (by kernel_rfl) ?main
 case main =>
  simp only [List.take_succ_cons, List.take_zero]
  refine wpK_ops rfl (fun w1 hu => ?_) ?_
  · clear hu
    go_simp
    first | done | rfl
  simp only[Act.put,nm1,nm2,nm3]
  refine wpK_ops rfl (fun w1 hu => ?_) ?_
  · clear hu
    go_simp
    first | done | rfl
  simp only[Act.put,nm1,nm2,nm3]
  refine wpK_ops rfl (fun w1 hu => ?_) ?_
  · clear hu
    go_simp
    first | done | rfl
  simp only[Act.put,nm1,nm2,nm3]
  refine wpK_ops rfl (fun w1 hu => ?_) ?_
  · have cl0 := (hb9.up ((Up.refl _).drew.trans hu)).cell (o := 1) rfl
    go_simp
    first | done | rfl
  simp only[Act.put,nm1,nm2,nm3]
  refine wpK_ops rfl (fun w1 hu => ?_) ?_
  · clear hu
    go_simp
    first | done | rfl
  simp only[Act.put,nm1,nm2,nm3]
  refine wpK_ops rfl (fun w1 hu => ?_) ?_
  · clear hu
    go_simp
    first | done | rfl
  simp only[Act.put,nm1,nm2,nm3]
  refine wpK_ops rfl (fun w1 hu => ?_) ?_
  · clear hu
    go_simp
    first | done | rfl
  simp only[Act.put,nm1,nm2,nm3]
  refine wpK_ops rfl (fun w1 hu => ?_) ?_
  · have cl0 := (hb9.up ((Up.refl _).drew.trans hu)).cell (o := 0) rfl
    go_simp
    first | done | rfl
  simp only[Act.put,nm1,nm2,nm3]
  refine wpK_ops rfl (fun w1 hu => ?_) ?_
  · clear hu
    go_simp
    first | done | rfl
  simp only[Act.put,nm1,nm2,nm3]
  refine wpK_ops rfl (fun w1 hu => ?_) ?_
  · clear hu
    go_simp
    first | done | rfl
  simp only[Act.put,nm1,nm2,nm3]
  refine wpK_nil ?_
  intro w14 hu hap
  simp only [List.drop_succ_cons, List.drop_zero]
  replace hu := (Up.refl _).drew.trans hu
  clear hap
  have hu15 := Aside0.mk hu
  clear hu
  refine wpList_nil (hK13 _ _ ?_)
  by_cases c16 : (decide (a0_1 < (a0_0.length : Int))) = true
  rotate_left
  ·
   rw [if_neg c16] at H; replace c16 := Bool.eq_false_iff.mpr c16
   try simp only [c16, Bool.not_true, Bool.not_false]
   refine wp_cond_false rfl ?_
   refine wp_skip ?_
   refine hK12 _ _ ?_
   refine wp_seq_k fun K33 hK33=>wp_region_lit ?_
   iterate 2 (refine wpp fun k h=>?_;go_simp;apply h;clear h k)
   by_cases c34 : (a1 == 0) = true
   ·
    rw [if_pos c34] at H
    have c34n : (a1 != 0) = false := by rw [bne, c34]; rfl
    exact absurd H (by simp)
   rw [if_neg c34] at H; replace c34 := Bool.eq_false_iff.mpr c34
   have c34n : (a1 != 0) = true := by rw [bne, c34]; rfl
   have c34p : ¬ a1 = 0 := fun e => by simp [e] at c34
   simp only [Option.some.injEq, Prod.mk.injEq] at H
   obtain ⟨rfl, rfl, rfl⟩ := H
   try simp only [c34, c34n, Bool.not_true, Bool.not_false]
   iterate 2 (refine wpp fun k h=>?_;go_simp;apply h;clear h k)
   refine wpList_nil (hK33 _ _ ?_)
   refine wp_ret ?_
   refine hQf _ _ _ ?_
   exact bodyPost_ret (v := .int .i64 (Int.tmod (wrap64 (bits .and .u64 ((IntKind.u64.wrap ((IntKind.u64.wrap (a0_2 * 6364136223846793005)) + 1442695040888963407)) / 8589934592) 16777215)) a1)) (by first|rfl|simp [results, Try.results160, go_sem]<;>rfl) rfl ⟨rfl, (hb9.up hu15.out), (((Grow.refl (.pointer (some ⟨ba0, 0, none⟩)) _).trans (Grow.of_sto hs8.out)).trans (Grow.up hu15.out))⟩
  rw [if_pos c16] at H
  obtain ⟨t18,A19,H⟩:=Option.bind_eq_some_iff.mp H
  replace A19:=Aside0.mk A19;try dsimp only at H
  try simp only [c16, Bool.not_true, Bool.not_false]
  refine wp_cond_true rfl ?_
  refine wp_seq_k fun K17 hK17=>?_
  obtain ⟨ad20, hat, he⟩ := rd_at (h10.up hu15.out) A19.out
  have he21 := Aside0.mk he
  have hat23 := Aside0.mk hat
  clear he hat
  refine' wp_region_up 13 [Slot.det _, Slot.det _, Slot.det _, Slot.det _, Slot.det _, Slot.det _, Slot.det _, Slot.det _, Slot.det _, Slot.det (.pointer (some ad20)), Slot.det _, Slot.det _, Slot.det _] (by kernel_rfl) (by kernel_rfl) ?main
  case main =>
   simp only [List.take_succ_cons, List.take_zero]
   refine wpK_ops rfl (fun w1 hu => ?_) ?_
   · clear hu
     go_simp
     first | done | rfl
   simp only[Act.put,nm1,nm2,nm3]
   refine wpK_ops rfl (fun w1 hu => ?_) ?_
   · clear hu
     go_simp
     first | done | rfl
   simp only[Act.put,nm1,nm2,nm3]
   refine wpK_ops rfl (fun w1 hu => ?_) ?_
   · clear hu
     go_simp
     first | done | rfl
   simp only[Act.put,nm1,nm2,nm3]
   refine wpK_ops rfl (fun w1 hu => ?_) ?_
   · clear hu
     go_simp
     first | done | rfl
   simp only[Act.put,nm1,nm2,nm3]
   refine wpK_ops rfl (fun w1 hu => ?_) ?_
   · have cl0 := ((hb9.up hu15.out).up ((Up.refl _).drew.trans hu)).cell (o := 0) rfl
     go_simp
     first | done | rfl
   simp only[Act.put,nm1,nm2,nm3]
   refine wpK_ops rfl (fun w1 hu => ?_) ?_
   · clear hu
     go_simp
     first | done | rfl
   simp only[Act.put,nm1,nm2,nm3]
   refine wpK_ops rfl (fun w1 hu => ?_) ?_
   · clear hu
     go_simp
     first | done | rfl
   simp only[Act.put,nm1,nm2,nm3]
   refine wpK_ops rfl (fun w1 hu => ?_) ?_
   · clear hu
     go_simp
     first | done | rfl
   simp only[Act.put,nm1,nm2,nm3]
   refine wpK_ops rfl (fun w1 hu => ?_) ?_
   · have cl0 := ((hb9.up hu15.out).up ((Up.refl _).drew.trans hu)).cell (o := 1) rfl
     go_simp
     first | done | rfl
   simp only[Act.put,nm1,nm2,nm3]
   refine wpK_ops rfl (fun w1 hu => ?_) ?_
   · exact quiet_index eU8 (T := 5) rfl (by kernel_rfl) (by kernel_rfl) rfl rfl rfl hat23.out A19.out
   simp only[Act.put,nm1,nm2,nm3]
   refine wpK_ops rfl (fun w1 hu => ?_) ?_
   · have cl0 := he21.out 0 _ rfl
     rw [addr_add0] at cl0
     replace cl0 := (((Up.refl _).drew.trans hu)).kept cl0
     go_simp
     first | done | rfl
   simp only[Act.put,nm1,nm2,nm3]
   refine wpK_ops rfl (fun w1 hu => ?_) ?_
   · clear hu
     go_simp
     first | done | rfl
   simp only[Act.put,nm1,nm2,nm3]
   refine wpK_ops rfl (fun w1 hu => ?_) ?_
   · clear hu
     go_simp
     first | done | rfl
   simp only[Act.put,nm1,nm2,nm3]
   refine wpK_nil ?_
   intro w24 hu hap
   simp only [List.drop_succ_cons, List.drop_zero]
   replace hu := (Up.refl _).drew.trans hu
   clear hap
   have hu25 := Aside0.mk hu
   clear hu
   refine wpp fun k h=>?_;go_simp;apply h;clear h k
   refine wpList_nil (hK17 _ _ ?_)
   refine wp_region_lit ?_
   iterate 4 (refine wpp fun k h=>?_;go_simp;apply h;clear h k)
   have cl0 := (hb9.up (hu15.out.trans hu25.out)).cell (o := 1) rfl
   refine wpp fun k h=>?_;go_simp;apply h;clear h k
   clear cl0
   iterate 3 (refine wpp fun k h=>?_;go_simp;apply h;clear h k)
   have hB0 := (hb9.up (hu15.out.trans hu25.out))
   have cl0 := hB0.cell (o := 1) rfl
   have fr0 := hB0.free 1
   refine step_store (b := ba0) (cs' := [.slice a0_0_A a0_0.length a0_0_c, .int .i64 (wrap64 (a0_1 + 1)), .int .u64 (IntKind.u64.wrap ((IntKind.u64.wrap (a0_2 * 6364136223846793005)) + 1442695040888963407))]) (T := 158) (W' := (w24.setCell ⟨ba0, 1, none⟩ (.int .i64 (wrap64 (a0_1 + 1))))) rfl rfl (by go_simp <;> rfl) ((Sto.refl _ _).setCell 1 _) ((hB0).setCell 1 _) ?_
   clear hB0 cl0 fr0
   intro w26 hs hb28
   have hs27 := Aside0.mk hs
   clear hs
   have h29 := (h10.up (hu15.out.trans hu25.out)).sto hs27.out haa0_0
   refine wpList_nil (hK12 _ _ ?_)
   refine wp_seq_k fun K30 hK30=>wp_region_lit ?_
   iterate 2 (refine wpp fun k h=>?_;go_simp;apply h;clear h k)
   have hm32 := Aside0.mk (Nat.le_trans ((Nat.le_trans ((Nat.le_trans ((Nat.le_of_eq hs8.out.size.symm)) hu15.out.size)) hu25.out.size)) (Nat.le_of_eq hs27.out.size.symm))
   by_cases c31 : (a1 == 0) = true
   ·
    rw [if_pos c31] at H
    have c31n : (a1 != 0) = false := by rw [bne, c31]; rfl
    exact absurd H (by simp)
   rw [if_neg c31] at H; replace c31 := Bool.eq_false_iff.mpr c31
   have c31n : (a1 != 0) = true := by rw [bne, c31]; rfl
   have c31p : ¬ a1 = 0 := fun e => by simp [e] at c31
   simp only [Option.some.injEq, Prod.mk.injEq] at H
   obtain ⟨rfl, rfl, rfl⟩ := H
   try simp only [c31, c31n, Bool.not_true, Bool.not_false]
   iterate 2 (refine wpp fun k h=>?_;go_simp;apply h;clear h k)
   refine wpList_nil (hK30 _ _ ?_)
   refine wp_ret ?_
   refine hQf _ _ _ ?_
   exact bodyPost_ret (v := .int .i64 (Int.tmod (wrap64 ((wrap64 (bits .and .u64 ((IntKind.u64.wrap ((IntKind.u64.wrap (a0_2 * 6364136223846793005)) + 1442695040888963407)) / 8589934592) 16777215)) + (wrap64 (t18)))) a1)) (by first|rfl|simp [results, Try.results160, go_sem]<;>rfl) rfl ⟨rfl, hb28, (((((Grow.refl (.pointer (some ⟨ba0, 0, none⟩)) _).trans (Grow.of_sto hs8.out)).trans (Grow.up hu15.out)).trans (Grow.up hu25.out)).trans (Grow.of_sto hs27.out))⟩

set_option maxHeartbeats 40000000 in
set_option maxRecDepth 100000 in
theorem spec_l01Pick.calls (K : Nat) (ba0 : Nat) (a0_0_A : Option Addr) (a0_0_c : Nat) (a0_0 : List (Int)) (a0_1 : Int) (a0_2 : Int) (a1_A : Option Addr) (a1_c : Nat) (a1 : List (Int)) (r0 : Int) (r1 : Int) (r2 : Int) (w : World) (ha0 : Blk w ba0 [.slice a0_0_A a0_0.length a0_0_c, .int .i64 a0_1, .int .u64 a0_2] 158) (ha0_0 : Rd eU8 w a0_0_A a0_0) (haa0_0 : ∀ k, blk (.slice a0_0_A a0_0.length a0_0_c) = some k → 0 < a0_0.length → k ≠ ba0) (ha1 : Rd eI w a1_A a1) (haa1 : ∀ k, blk (.slice a1_A a1.length a1_c) = some k → 0 < a1.length → k ≠ ba0) (h : spec_l01Pick.f K a0_0 a0_1 a0_2 a1 = some (r0, r1, r2)) :
    Calls Try.prog 179 #[.pointer (some ⟨ba0, 0, none⟩), .slice a1_A a1.length a1_c] w fun e w' => e = .returned (.int .i64 r0) ∧ Blk w' ba0 [.slice a0_0_A a0_0.length a0_0_c, .int .i64 r1, .int .u64 r2] 158 ∧ Grow (.pointer (some ⟨ba0, 0, none⟩)) w w' := by
 have H : (((spec_l01Next.f K a0_0 a0_1 a0_2 (a1.length : Int)).bind fun (t3, t4, t5) => ((idx a1 t3).bind fun t12 => some (t12, t4, t5))) : Option (Int × Int × Int)) = some (r0, r1, r2) := h
 clear h
 obtain ⟨⟨t3, t4, t5⟩,A6,H⟩:=Option.bind_eq_some_iff.mp H
 replace A6:=Aside0.mk A6;try dsimp only at H
 obtain ⟨t12,A13,H⟩:=Option.bind_eq_some_iff.mp H
 replace A13:=Aside0.mk A13;try dsimp only at H
 simp only [Option.some.injEq, Prod.mk.injEq] at H
 obtain ⟨rfl, rfl, rfl⟩ := H
 have ltba0 := Aside0.mk ha0.lt
 go_enter Try.func179, Try.ntmps179
 refine wp_hide (fun Qf hQf => ?_)
 refine wp_seq_k fun K1 hK1=>wp_region_lit ?_
 refine wpp fun k h=>?_;go_simp;apply h;clear h k
 refine wpList_nil (hK1 _ _ ?_)
 refine wp_seq_k fun K2 hK2=>wp_region_lit ?_
 iterate 4 (refine wpp fun k h=>?_;go_simp;apply h;clear h k)
 refine step_call wn (by go_simp <;> rfl) (spec_l01Next.calls K ba0 a0_0_A a0_0_c a0_0 a0_1 a0_2 (a1.length : Int) t3 t4 t5 w ha0 ha0_0 haa0_0 A6.out) ?_
 rintro e w7 ⟨rfl, h8, hs⟩
 have hs9 := Aside0.mk hs
 clear hs
 have h10 := ha0_0.growp hs9.out haa0_0
 have h11 := ha1.growp hs9.out haa1
 refine ⟨_, rfl, ?_⟩
 simp only[Act.put,nm1,nm2,nm3]
 refine step_index eI (T := 2) wn rfl (by kernel_rfl) (by kernel_rfl) rfl rfl rfl h11 A13.out ?_
 intro ad14 hat he
 have he15 := Aside0.mk he
 have hat16 := Aside0.mk hat
 clear he hat
 simp only[Act.put,nm1,nm2,nm3]
 have cl0 := he15.out 0 _ rfl
 rw [addr_add0] at cl0
 refine wpp fun k h=>?_;go_simp;apply h;clear h k
 clear cl0
 refine wpp fun k h=>?_;go_simp;apply h;clear h k
 refine wpList_nil (hK2 _ _ ?_)
 refine wp_ret ?_
 refine hQf _ _ _ ?_
 exact bodyPost_ret (v := .int .i64 t12) (by first|rfl|simp [results, Try.results179, go_sem]<;>rfl) rfl ⟨rfl, h8, ((Grow.refl (.pointer (some ⟨ba0, 0, none⟩)) _).trans hs9.out)⟩

set_option maxHeartbeats 40000000 in
set_option maxRecDepth 100000 in
theorem spec_l01DrawField.calls (K : Nat) (ba0 : Nat) (a0_0_A : Option Addr) (a0_0_c : Nat) (a0_0 : List (Int)) (a0_1 : Int) (a0_2 : Int) (r0 : Int) (r1 : Int) (r2 : Int) (w : World) (ha0 : Blk w ba0 [.slice a0_0_A a0_0.length a0_0_c, .int .i64 a0_1, .int .u64 a0_2] 158) (ha0_0 : Rd eU8 w a0_0_A a0_0) (haa0_0 : ∀ k, blk (.slice a0_0_A a0_0.length a0_0_c) = some k → 0 < a0_0.length → k ≠ ba0) (h : spec_l01DrawField.f K a0_0 a0_1 a0_2 = some (r0, r1, r2)) :
    Calls Try.prog 106 #[.pointer (some ⟨ba0, 0, none⟩)] w fun e w' => e = .returned (.int .i64 r0) ∧ Blk w' ba0 [.slice a0_0_A a0_0.length a0_0_c, .int .i64 r1, .int .u64 r2] 158 ∧ Grow (.pointer (some ⟨ba0, 0, none⟩)) w w' := by
 have H : (((spec_l01Pick.f K a0_0 a0_1 a0_2 ([3, 5, 5, 7, 7, 11, 13, 13, 17, 19, 23, 29, 31])).bind fun (t6, t7, t8) => some (t6, t7, t8)) : Option (Int × Int × Int)) = some (r0, r1, r2) := h
 clear h
 obtain ⟨⟨t6, t7, t8⟩,A9,H⟩:=Option.bind_eq_some_iff.mp H
 replace A9:=Aside0.mk A9;try dsimp only at H
 simp only [Option.some.injEq, Prod.mk.injEq] at H
 obtain ⟨rfl, rfl, rfl⟩ := H
 have ltba0 := Aside0.mk ha0.lt
 go_enter Try.func106, Try.ntmps106
 refine wp_hide (fun Qf hQf => ?_)
 refine wp_seq_k fun K1 hK1=>wp_region_lit ?_
 refine wpp fun k h=>?_;go_simp;apply h;clear h k
 refine wpList_nil (hK1 _ _ ?_)
 refine wp_seq_k fun K2 hK2=>wp_region_lit ?_
 refine wpp fun k h=>?_;go_simp;apply h;clear h k
 refine step_new (cs := [.int .i64 3, .int .i64 5, .int .i64 5, .int .i64 7, .int .i64 7, .int .i64 11, .int .i64 13, .int .i64 13, .int .i64 17, .int .i64 19, .int .i64 23, .int .i64 29, .int .i64 31]) (T := 2) (f := fun b => .slice (some ⟨b, 0, none⟩) 13 13) rfl (by go_simp <;> rfl) ?_
 intro b3 w4 hu lb hb3
 simp only[Act.put,nm1,nm2,nm3]
 have lbb3 := Aside0.mk lb
 have ltb3 := Aside0.mk hb3.lt
 clear lb
 have hu5 := Aside0.mk hu
 clear hu
 refine step_call wn (by go_simp <;> rfl) (spec_l01Pick.calls K ba0 a0_0_A a0_0_c a0_0 a0_1 a0_2 (some ⟨b3, 0, none⟩) 13 ([3, 5, 5, 7, 7, 11, 13, 13, 17, 19, 23, 29, 31]) t6 t7 t8 w4 (ha0.up hu5.out) (ha0_0.up hu5.out) haa0_0 (Rd.of_blk (E := eI) (xs := [3, 5, 5, 7, 7, 11, 13, 13, 17, 19, 23, 29, 31]) (o := 0) hb3 (by simp) (fun j u hu => by rcases j with j <;> simp_all [Enc.flat, eI])) (fun k hk hp e => (Ne.symm (Nat.ne_of_lt (Nat.lt_of_lt_of_le ltba0.out lbb3.out))) ((Option.some.inj hk).trans e)) A9.out) ?_
 rintro e w10 ⟨rfl, h11, hs⟩
 have hs12 := Aside0.mk hs
 clear hs
 have h13 := (ha0_0.up hu5.out).growp hs12.out haa0_0
 have h14 := hb3.grow hs12.out (fun k hk e => (Nat.ne_of_lt (Nat.lt_of_lt_of_le ltba0.out lbb3.out)) ((Option.some.inj hk).trans e))
 refine ⟨_, rfl, ?_⟩
 simp only[Act.put,nm1,nm2,nm3]
 refine wpp fun k h=>?_;go_simp;apply h;clear h k
 refine wpList_nil (hK2 _ _ ?_)
 refine wp_ret ?_
 refine hQf _ _ _ ?_
 exact bodyPost_ret (v := .int .i64 t6) (by first|rfl|simp [results, Try.results106, go_sem]<;>rfl) rfl ⟨rfl, h11, (((Grow.refl (.pointer (some ⟨ba0, 0, none⟩)) _).trans (Grow.up hu5.out)).trans hs12.out)⟩

set_option maxHeartbeats 40000000 in
set_option maxRecDepth 100000 in
theorem spec_l01DrawPoint.calls (K : Nat) (ba0 : Nat) (a0_0_A : Option Addr) (a0_0_c : Nat) (a0_0 : List (Int)) (a0_1 : Int) (a0_2 : Int) (a1 : Int) (r0 : Int) (r1 : Int) (r2 : Int) (r3 : Int) (w : World) (ha0 : Blk w ba0 [.slice a0_0_A a0_0.length a0_0_c, .int .i64 a0_1, .int .u64 a0_2] 158) (ha0_0 : Rd eU8 w a0_0_A a0_0) (haa0_0 : ∀ k, blk (.slice a0_0_A a0_0.length a0_0_c) = some k → 0 < a0_0.length → k ≠ ba0) (h : spec_l01DrawPoint.f K a0_0 a0_1 a0_2 a1 = some (r0, r1, r2, r3)) :
    Calls Try.prog 159 #[.pointer (some ⟨ba0, 0, none⟩), .int .i64 a1] w fun e w' => e = .returned (.agg #[.int .i64 r0, .int .i64 r1]) ∧ Blk w' ba0 [.slice a0_0_A a0_0.length a0_0_c, .int .i64 r2, .int .u64 r3] 158 ∧ Grow (.pointer (some ⟨ba0, 0, none⟩)) w w' := by
 have H : (((spec_l01Next.f K a0_0 a0_1 a0_2 4).bind fun (t7, t8, t9) => (if (t7 == 0) = true then ((spec_l01Next.f K a0_0 t8 t9 3).bind fun (t18, t19, t20) => ((spec_l01Next.f K a0_0 t19 t20 3).bind fun (t27, t28, t29) => some (t18, t27, t28, t29))) else ((spec_l01Next.f K a0_0 t8 t9 a1).bind fun (t42, t43, t44) => ((spec_l01Next.f K a0_0 t43 t44 a1).bind fun (t51, t52, t53) => some (t42, t51, t52, t53))))) : Option (Int × Int × Int × Int)) = some (r0, r1, r2, r3) := h
 clear h
 obtain ⟨⟨t7, t8, t9⟩,A10,H⟩:=Option.bind_eq_some_iff.mp H
 replace A10:=Aside0.mk A10;try dsimp only at H
 have ltba0 := Aside0.mk ha0.lt
 go_enter Try.func159, Try.ntmps159
 refine wp_hide (fun Qf hQf => ?_)
 refine wp_seq_k fun K1 hK1=>wp_region_lit ?_
 refine step_new (cs := [.int .i64 0, .int .i64 0]) (T := 30) (f := fun b => .pointer (some ⟨b, 0, none⟩)) rfl (by go_simp <;> rfl) ?_
 intro b2 w3 hu lb hb2
 simp only[Act.put,nm1,nm2,nm3]
 have lbb2 := Aside0.mk lb
 have ltb2 := Aside0.mk hb2.lt
 clear lb
 have hu4 := Aside0.mk hu
 clear hu
 refine wpList_nil (hK1 _ _ ?_)
 refine wp_seq_k fun K5 hK5=>?_
 refine wp_seq_k fun K6 hK6=>wp_region_lit ?_
 refine wpp fun k h=>?_;go_simp;apply h;clear h k
 refine step_call wn (by go_simp <;> rfl) (spec_l01Next.calls K ba0 a0_0_A a0_0_c a0_0 a0_1 a0_2 4 t7 t8 t9 w3 (ha0.up hu4.out) (ha0_0.up hu4.out) haa0_0 A10.out) ?_
 rintro e w11 ⟨rfl, h12, hs⟩
 have hs13 := Aside0.mk hs
 clear hs
 have h14 := (ha0_0.up hu4.out).growp hs13.out haa0_0
 have h15 := hb2.grow hs13.out (fun k hk e => (Nat.ne_of_lt (Nat.lt_of_lt_of_le ltba0.out lbb2.out)) ((Option.some.inj hk).trans e))
 refine ⟨_, rfl, ?_⟩
 simp only[Act.put,nm1,nm2,nm3]
 refine wpp fun k h=>?_;go_simp;apply h;clear h k
 refine wpList_nil (hK6 _ _ ?_)
 by_cases c16 : (t7 == 0) = true
 ·
  rw [if_pos c16] at H
  have c16n : (t7 != 0) = false := by rw [bne, c16]; rfl
  obtain ⟨⟨t18, t19, t20⟩,A21,H⟩:=Option.bind_eq_some_iff.mp H
  replace A21:=Aside0.mk A21;try dsimp only at H
  obtain ⟨⟨t27, t28, t29⟩,A30,H⟩:=Option.bind_eq_some_iff.mp H
  replace A30:=Aside0.mk A30;try dsimp only at H
  simp only [Option.some.injEq, Prod.mk.injEq] at H
  obtain ⟨rfl, rfl, rfl, rfl⟩ := H
  try simp only [c16, c16n, Bool.not_true, Bool.not_false]
  refine wp_cond_true rfl ?_
  refine wp_seq_k fun K17 hK17=>wp_region_lit ?_
  refine wpp fun k h=>?_;go_simp;apply h;clear h k
  refine step_call wn (by go_simp <;> rfl) (spec_l01Next.calls K ba0 a0_0_A a0_0_c a0_0 t8 t9 3 t18 t19 t20 w11 h12 h14 haa0_0 A21.out) ?_
  rintro e w22 ⟨rfl, h23, hs⟩
  have hs24 := Aside0.mk hs
  clear hs
  have h25 := h14.growp hs24.out haa0_0
  have h26 := h15.grow hs24.out (fun k hk e => (Nat.ne_of_lt (Nat.lt_of_lt_of_le ltba0.out lbb2.out)) ((Option.some.inj hk).trans e))
  refine ⟨_, rfl, ?_⟩
  simp only[Act.put,nm1,nm2,nm3]
  refine wpp fun k h=>?_;go_simp;apply h;clear h k
  refine step_call wn (by go_simp <;> rfl) (spec_l01Next.calls K ba0 a0_0_A a0_0_c a0_0 t19 t20 3 t27 t28 t29 w22 h23 h25 haa0_0 A30.out) ?_
  rintro e w31 ⟨rfl, h32, hs⟩
  have hs33 := Aside0.mk hs
  clear hs
  have h34 := h25.growp hs33.out haa0_0
  have h35 := h26.grow hs33.out (fun k hk e => (Nat.ne_of_lt (Nat.lt_of_lt_of_le ltba0.out lbb2.out)) ((Option.some.inj hk).trans e))
  refine ⟨_, rfl, ?_⟩
  simp only[Act.put,nm1,nm2,nm3]
  refine wpp fun k h=>?_;go_simp;apply h;clear h k
  have hB0 := h35
  have cl0 := hB0.cell (o := 0) rfl
  have fr0 := hB0.free 0
  have cl1 := hB0.cell (o := 1) rfl
  have fr1 := hB0.free 1
  refine step_store (b := b2) (cs' := [.int .i64 t18, .int .i64 t27]) (T := 30) (W' := ((w31.setCell ⟨b2, 0, none⟩ (.int .i64 t18)).setCell ⟨b2, 1, none⟩ (.int .i64 t27))) rfl rfl (by go_simp <;> rfl) (((Sto.refl _ _).setCell 0 _).setCell 1 _) (((hB0).setCell 0 _).setCell 1 _) ?_
  clear hB0 cl0 fr0 cl1 fr1
  intro w36 hs hb38
  have hs37 := Aside0.mk hs
  clear hs
  have h39 := h32.sto hs37.out (Nat.ne_of_lt (Nat.lt_of_lt_of_le ltba0.out lbb2.out))
  have h40 := Rd.sto (c := 0) h34 hs37.out (fun k hk hp => Nat.ne_of_lt (Nat.lt_of_lt_of_le (ha0_0.blk_lt hp k hk) (lbb2.out)))
  refine wpList_nil (hK17 _ _ ?_)
  refine wp_ret ?_
  refine hQf _ _ _ ?_
  have cr0 := hb38.cell (o := 0) rfl
  have cr1 := hb38.cell (o := 1) rfl
  exact bodyPost_ret (v := .agg #[.int .i64 t18, .int .i64 t27]) (by first|rfl|simp [results, Try.results159, go_sem, cr0, cr1]<;>rfl) rfl ⟨rfl, h39, (Grow.sto_young (((((Grow.refl (.pointer (some ⟨ba0, 0, none⟩)) _).trans (Grow.up hu4.out)).trans hs13.out).trans hs24.out).trans hs33.out) hs37.out (Nat.le_trans (Nat.le_refl _) lbb2.out))⟩
 rw [if_neg c16] at H; replace c16 := Bool.eq_false_iff.mpr c16
 have c16n : (t7 != 0) = true := by rw [bne, c16]; rfl
 have c16p : ¬ t7 = 0 := fun e => by simp [e] at c16
 obtain ⟨⟨t42, t43, t44⟩,A45,H⟩:=Option.bind_eq_some_iff.mp H
 replace A45:=Aside0.mk A45;try dsimp only at H
 obtain ⟨⟨t51, t52, t53⟩,A54,H⟩:=Option.bind_eq_some_iff.mp H
 replace A54:=Aside0.mk A54;try dsimp only at H
 simp only [Option.some.injEq, Prod.mk.injEq] at H
 obtain ⟨rfl, rfl, rfl, rfl⟩ := H
 try simp only [c16, c16n, Bool.not_true, Bool.not_false]
 refine wp_cond_false rfl ?_
 refine wp_skip ?_
 refine hK5 _ _ ?_
 refine wp_seq_k fun K41 hK41=>wp_region_lit ?_
 iterate 2 (refine wpp fun k h=>?_;go_simp;apply h;clear h k)
 refine step_call wn (by go_simp <;> rfl) (spec_l01Next.calls K ba0 a0_0_A a0_0_c a0_0 t8 t9 a1 t42 t43 t44 w11 h12 h14 haa0_0 A45.out) ?_
 rintro e w46 ⟨rfl, h47, hs⟩
 have hs48 := Aside0.mk hs
 clear hs
 have h49 := h14.growp hs48.out haa0_0
 have h50 := h15.grow hs48.out (fun k hk e => (Nat.ne_of_lt (Nat.lt_of_lt_of_le ltba0.out lbb2.out)) ((Option.some.inj hk).trans e))
 refine ⟨_, rfl, ?_⟩
 simp only[Act.put,nm1,nm2,nm3]
 iterate 2 (refine wpp fun k h=>?_;go_simp;apply h;clear h k)
 refine step_call wn (by go_simp <;> rfl) (spec_l01Next.calls K ba0 a0_0_A a0_0_c a0_0 t43 t44 a1 t51 t52 t53 w46 h47 h49 haa0_0 A54.out) ?_
 rintro e w55 ⟨rfl, h56, hs⟩
 have hs57 := Aside0.mk hs
 clear hs
 have h58 := h49.growp hs57.out haa0_0
 have h59 := h50.grow hs57.out (fun k hk e => (Nat.ne_of_lt (Nat.lt_of_lt_of_le ltba0.out lbb2.out)) ((Option.some.inj hk).trans e))
 refine ⟨_, rfl, ?_⟩
 simp only[Act.put,nm1,nm2,nm3]
 refine wpp fun k h=>?_;go_simp;apply h;clear h k
 have hB0 := h59
 have cl0 := hB0.cell (o := 0) rfl
 have fr0 := hB0.free 0
 have cl1 := hB0.cell (o := 1) rfl
 have fr1 := hB0.free 1
 refine step_store (b := b2) (cs' := [.int .i64 t42, .int .i64 t51]) (T := 30) (W' := ((w55.setCell ⟨b2, 0, none⟩ (.int .i64 t42)).setCell ⟨b2, 1, none⟩ (.int .i64 t51))) rfl rfl (by go_simp <;> rfl) (((Sto.refl _ _).setCell 0 _).setCell 1 _) (((hB0).setCell 0 _).setCell 1 _) ?_
 clear hB0 cl0 fr0 cl1 fr1
 intro w60 hs hb62
 have hs61 := Aside0.mk hs
 clear hs
 have h63 := h56.sto hs61.out (Nat.ne_of_lt (Nat.lt_of_lt_of_le ltba0.out lbb2.out))
 have h64 := Rd.sto (c := 0) h58 hs61.out (fun k hk hp => Nat.ne_of_lt (Nat.lt_of_lt_of_le (ha0_0.blk_lt hp k hk) (lbb2.out)))
 refine wpList_nil (hK41 _ _ ?_)
 refine wp_ret ?_
 refine hQf _ _ _ ?_
 have cr0 := hb62.cell (o := 0) rfl
 have cr1 := hb62.cell (o := 1) rfl
 exact bodyPost_ret (v := .agg #[.int .i64 t42, .int .i64 t51]) (by first|rfl|simp [results, Try.results159, go_sem, cr0, cr1]<;>rfl) rfl ⟨rfl, h63, (Grow.sto_young (((((Grow.refl (.pointer (some ⟨ba0, 0, none⟩)) _).trans (Grow.up hu4.out)).trans hs13.out).trans hs48.out).trans hs57.out) hs61.out (Nat.le_trans (Nat.le_refl _) lbb2.out))⟩

set_option maxHeartbeats 40000000 in
set_option maxRecDepth 100000 in
theorem spec_l06DrawOf.calls (K : Nat) (ba0 : Nat) (a0_0_A : Option Addr) (a0_0_c : Nat) (a0_0 : List (Int)) (a0_1 : Int) (a0_2 : Int) (a1 : Int) (r0 : Int) (r1 : Int) (r2 : Int) (r3 : Int) (r4 : Int) (w : World) (ha0 : Blk w ba0 [.slice a0_0_A a0_0.length a0_0_c, .int .i64 a0_1, .int .u64 a0_2] 158) (ha0_0 : Rd eU8 w a0_0_A a0_0) (haa0_0 : ∀ k, blk (.slice a0_0_A a0_0.length a0_0_c) = some k → 0 < a0_0.length → k ≠ ba0) (h : spec_l06DrawOf.f K a0_0 a0_1 a0_2 a1 = some (r0, r1, r2, r3, r4)) :
    Calls Try.prog 153 #[.pointer (some ⟨ba0, 0, none⟩), .int .i64 a1] w fun e w' => e = .returned (.agg #[.int .i64 r0, .int .i64 r1, .int .i64 r2]) ∧ Blk w' ba0 [.slice a0_0_A a0_0.length a0_0_c, .int .i64 r3, .int .u64 r4] 158 ∧ Grow (.pointer (some ⟨ba0, 0, none⟩)) w w' := by
 have H : (((spec_l01DrawPoint.f K a0_0 a0_1 a0_2 a1).bind fun (t6, t7, t8, t9) => ((spec_l01Next.f K a0_0 t8 t9 a1).bind fun (t16, t17, t18) => some (t6, t7, t16, t17, t18))) : Option (Int × Int × Int × Int × Int)) = some (r0, r1, r2, r3, r4) := h
 clear h
 obtain ⟨⟨t6, t7, t8, t9⟩,A10,H⟩:=Option.bind_eq_some_iff.mp H
 replace A10:=Aside0.mk A10;try dsimp only at H
 obtain ⟨⟨t16, t17, t18⟩,A19,H⟩:=Option.bind_eq_some_iff.mp H
 replace A19:=Aside0.mk A19;try dsimp only at H
 simp only [Option.some.injEq, Prod.mk.injEq] at H
 obtain ⟨rfl, rfl, rfl, rfl, rfl⟩ := H
 have ltba0 := Aside0.mk ha0.lt
 go_enter Try.func153, Try.ntmps153
 refine wp_hide (fun Qf hQf => ?_)
 refine wp_seq_k fun K1 hK1=>wp_region_lit ?_
 refine step_new (cs := [.int .i64 0, .int .i64 0, .int .i64 0]) (T := 71) (f := fun b => .pointer (some ⟨b, 0, none⟩)) rfl (by go_simp <;> rfl) ?_
 intro b2 w3 hu lb hb2
 simp only[Act.put,nm1,nm2,nm3]
 have lbb2 := Aside0.mk lb
 have ltb2 := Aside0.mk hb2.lt
 clear lb
 have hu4 := Aside0.mk hu
 clear hu
 refine wpList_nil (hK1 _ _ ?_)
 refine wp_seq_k fun K5 hK5=>wp_region_lit ?_
 iterate 2 (refine wpp fun k h=>?_;go_simp;apply h;clear h k)
 refine step_call wn (by go_simp <;> rfl) (spec_l01DrawPoint.calls K ba0 a0_0_A a0_0_c a0_0 a0_1 a0_2 a1 t6 t7 t8 t9 w3 (ha0.up hu4.out) (ha0_0.up hu4.out) haa0_0 A10.out) ?_
 rintro e w11 ⟨rfl, h12, hs⟩
 have hs13 := Aside0.mk hs
 clear hs
 have h14 := (ha0_0.up hu4.out).growp hs13.out haa0_0
 have h15 := hb2.grow hs13.out (fun k hk e => (Nat.ne_of_lt (Nat.lt_of_lt_of_le ltba0.out lbb2.out)) ((Option.some.inj hk).trans e))
 refine ⟨_, rfl, ?_⟩
 simp only[Act.put,nm1,nm2,nm3]
 iterate 2 (refine wpp fun k h=>?_;go_simp;apply h;clear h k)
 refine step_call wn (by go_simp <;> rfl) (spec_l01Next.calls K ba0 a0_0_A a0_0_c a0_0 t8 t9 a1 t16 t17 t18 w11 h12 h14 haa0_0 A19.out) ?_
 rintro e w20 ⟨rfl, h21, hs⟩
 have hs22 := Aside0.mk hs
 clear hs
 have h23 := h14.growp hs22.out haa0_0
 have h24 := h15.grow hs22.out (fun k hk e => (Nat.ne_of_lt (Nat.lt_of_lt_of_le ltba0.out lbb2.out)) ((Option.some.inj hk).trans e))
 refine ⟨_, rfl, ?_⟩
 simp only[Act.put,nm1,nm2,nm3]
 refine wpp fun k h=>?_;go_simp;apply h;clear h k
 have hB0 := h24
 have cl0 := hB0.cell (o := 0) rfl
 have fr0 := hB0.free 0
 have cl1 := hB0.cell (o := 1) rfl
 have fr1 := hB0.free 1
 have cl2 := hB0.cell (o := 2) rfl
 have fr2 := hB0.free 2
 refine step_store (b := b2) (cs' := [.int .i64 t6, .int .i64 t7, .int .i64 t16]) (T := 71) (W' := (((w20.setCell ⟨b2, 0, none⟩ (.int .i64 t6)).setCell ⟨b2, 1, none⟩ (.int .i64 t7)).setCell ⟨b2, 2, none⟩ (.int .i64 t16))) rfl rfl (by go_simp <;> rfl) ((((Sto.refl _ _).setCell 0 _).setCell 1 _).setCell 2 _) ((((hB0).setCell 0 _).setCell 1 _).setCell 2 _) ?_
 clear hB0 cl0 fr0 cl1 fr1 cl2 fr2
 intro w25 hs hb27
 have hs26 := Aside0.mk hs
 clear hs
 have h28 := h21.sto hs26.out (Nat.ne_of_lt (Nat.lt_of_lt_of_le ltba0.out lbb2.out))
 have h29 := Rd.sto (c := 0) h23 hs26.out (fun k hk hp => Nat.ne_of_lt (Nat.lt_of_lt_of_le (ha0_0.blk_lt hp k hk) (lbb2.out)))
 refine wpList_nil (hK5 _ _ ?_)
 refine wp_ret ?_
 refine hQf _ _ _ ?_
 have cr0 := hb27.cell (o := 0) rfl
 have cr1 := hb27.cell (o := 1) rfl
 have cr2 := hb27.cell (o := 2) rfl
 exact bodyPost_ret (v := .agg #[.int .i64 t6, .int .i64 t7, .int .i64 t16]) (by first|rfl|simp [results, Try.results153, go_sem, cr0, cr1, cr2]<;>rfl) rfl ⟨rfl, h28, (Grow.sto_young ((((Grow.refl (.pointer (some ⟨ba0, 0, none⟩)) _).trans (Grow.up hu4.out)).trans hs13.out).trans hs22.out) hs26.out (Nat.le_trans (Nat.le_refl _) lbb2.out))⟩

set_option maxHeartbeats 40000000 in
set_option maxRecDepth 100000 in
theorem spec_l02DrawColour.calls (K : Nat) (ba0 : Nat) (a0_0_A : Option Addr) (a0_0_c : Nat) (a0_0 : List (Int)) (a0_1 : Int) (a0_2 : Int) (r0 : Int) (r1 : Int) (r2 : Int) (w : World) (ha0 : Blk w ba0 [.slice a0_0_A a0_0.length a0_0_c, .int .i64 a0_1, .int .u64 a0_2] 158) (ha0_0 : Rd eU8 w a0_0_A a0_0) (haa0_0 : ∀ k, blk (.slice a0_0_A a0_0.length a0_0_c) = some k → 0 < a0_0.length → k ≠ ba0) (h : spec_l02DrawColour.f K a0_0 a0_1 a0_2 = some (r0, r1, r2)) :
    Calls Try.prog 191 #[.pointer (some ⟨ba0, 0, none⟩)] w fun e w' => e = .returned (.int .i64 r0) ∧ Blk w' ba0 [.slice a0_0_A a0_0.length a0_0_c, .int .i64 r1, .int .u64 r2] 158 ∧ Grow (.pointer (some ⟨ba0, 0, none⟩)) w w' := by
 have H : (((spec_l01Next.f K a0_0 a0_1 a0_2 40).bind fun (t4, t5, t6) => (if (t4 == 0) = true then ((spec_l01Pick.f K a0_0 t5 t6 ([(-1), 3, 1099511627776])).bind fun (t17, t18, t19) => some (t17, t18, t19)) else ((spec_l01Next.f K a0_0 t5 t6 3).bind fun (t27, t28, t29) => some (t27, t28, t29)))) : Option (Int × Int × Int)) = some (r0, r1, r2) := h
 clear h
 obtain ⟨⟨t4, t5, t6⟩,A7,H⟩:=Option.bind_eq_some_iff.mp H
 replace A7:=Aside0.mk A7;try dsimp only at H
 have ltba0 := Aside0.mk ha0.lt
 go_enter Try.func191, Try.ntmps191
 refine wp_hide (fun Qf hQf => ?_)
 refine wp_seq_k fun K1 hK1=>wp_region_lit ?_
 refine wpp fun k h=>?_;go_simp;apply h;clear h k
 refine wpList_nil (hK1 _ _ ?_)
 refine wp_seq_k fun K2 hK2=>?_
 refine wp_seq_k fun K3 hK3=>wp_region_lit ?_
 refine wpp fun k h=>?_;go_simp;apply h;clear h k
 refine step_call wn (by go_simp <;> rfl) (spec_l01Next.calls K ba0 a0_0_A a0_0_c a0_0 a0_1 a0_2 40 t4 t5 t6 w ha0 ha0_0 haa0_0 A7.out) ?_
 rintro e w8 ⟨rfl, h9, hs⟩
 have hs10 := Aside0.mk hs
 clear hs
 have h11 := ha0_0.growp hs10.out haa0_0
 refine ⟨_, rfl, ?_⟩
 simp only[Act.put,nm1,nm2,nm3]
 refine wpp fun k h=>?_;go_simp;apply h;clear h k
 refine wpList_nil (hK3 _ _ ?_)
 by_cases c12 : (t4 == 0) = true
 rotate_left
 ·
  rw [if_neg c12] at H; replace c12 := Bool.eq_false_iff.mpr c12
  have c12n : (t4 != 0) = true := by rw [bne, c12]; rfl
  have c12p : ¬ t4 = 0 := fun e => by simp [e] at c12
  obtain ⟨⟨t27, t28, t29⟩,A30,H⟩:=Option.bind_eq_some_iff.mp H
  replace A30:=Aside0.mk A30;try dsimp only at H
  simp only [Option.some.injEq, Prod.mk.injEq] at H
  obtain ⟨rfl, rfl, rfl⟩ := H
  try simp only [c12, c12n, Bool.not_true, Bool.not_false]
  refine wp_cond_false rfl ?_
  refine wp_skip ?_
  refine hK2 _ _ ?_
  refine wp_seq_k fun K26 hK26=>wp_region_lit ?_
  refine wpp fun k h=>?_;go_simp;apply h;clear h k
  refine step_call wn (by go_simp <;> rfl) (spec_l01Next.calls K ba0 a0_0_A a0_0_c a0_0 t5 t6 3 t27 t28 t29 w8 h9 h11 haa0_0 A30.out) ?_
  rintro e w31 ⟨rfl, h32, hs⟩
  have hs33 := Aside0.mk hs
  clear hs
  have h34 := h11.growp hs33.out haa0_0
  refine ⟨_, rfl, ?_⟩
  simp only[Act.put,nm1,nm2,nm3]
  refine wpp fun k h=>?_;go_simp;apply h;clear h k
  refine wpList_nil (hK26 _ _ ?_)
  refine wp_ret ?_
  refine hQf _ _ _ ?_
  exact bodyPost_ret (v := .int .i64 t27) (by first|rfl|simp [results, Try.results191, go_sem]<;>rfl) rfl ⟨rfl, h32, (((Grow.refl (.pointer (some ⟨ba0, 0, none⟩)) _).trans hs10.out).trans hs33.out)⟩
 rw [if_pos c12] at H
 have c12n : (t4 != 0) = false := by rw [bne, c12]; rfl
 obtain ⟨⟨t17, t18, t19⟩,A20,H⟩:=Option.bind_eq_some_iff.mp H
 replace A20:=Aside0.mk A20;try dsimp only at H
 simp only [Option.some.injEq, Prod.mk.injEq] at H
 obtain ⟨rfl, rfl, rfl⟩ := H
 try simp only [c12, c12n, Bool.not_true, Bool.not_false]
 refine wp_cond_true rfl ?_
 refine wp_seq_k fun K13 hK13=>wp_region_lit ?_
 refine wpp fun k h=>?_;go_simp;apply h;clear h k
 refine step_new (cs := [.int .i64 (-1), .int .i64 3, .int .i64 1099511627776]) (T := 2) (f := fun b => .slice (some ⟨b, 0, none⟩) 3 3) rfl (by go_simp <;> rfl) ?_
 intro b14 w15 hu lb hb14
 simp only[Act.put,nm1,nm2,nm3]
 have lbb14 := Aside0.mk lb
 have ltb14 := Aside0.mk hb14.lt
 clear lb
 have hu16 := Aside0.mk hu
 clear hu
 refine step_call wn (by go_simp <;> rfl) (spec_l01Pick.calls K ba0 a0_0_A a0_0_c a0_0 t5 t6 (some ⟨b14, 0, none⟩) 3 ([(-1), 3, 1099511627776]) t17 t18 t19 w15 (h9.up hu16.out) (h11.up hu16.out) haa0_0 (Rd.of_blk (E := eI) (xs := [(-1), 3, 1099511627776]) (o := 0) hb14 (by simp) (fun j u hu => by rcases j with _ | _ | _ | j <;> simp_all [Enc.flat, eI])) (fun k hk hp e => (Ne.symm (Nat.ne_of_lt (Nat.lt_of_lt_of_le (Nat.lt_of_lt_of_le ltba0.out (hs10.out.size)) lbb14.out))) ((Option.some.inj hk).trans e)) A20.out) ?_
 rintro e w21 ⟨rfl, h22, hs⟩
 have hs23 := Aside0.mk hs
 clear hs
 have h24 := (h11.up hu16.out).growp hs23.out haa0_0
 have h25 := hb14.grow hs23.out (fun k hk e => (Nat.ne_of_lt (Nat.lt_of_lt_of_le (Nat.lt_of_lt_of_le ltba0.out (hs10.out.size)) lbb14.out)) ((Option.some.inj hk).trans e))
 refine ⟨_, rfl, ?_⟩
 simp only[Act.put,nm1,nm2,nm3]
 refine wpp fun k h=>?_;go_simp;apply h;clear h k
 refine wpList_nil (hK13 _ _ ?_)
 refine wp_ret ?_
 refine hQf _ _ _ ?_
 exact bodyPost_ret (v := .int .i64 t17) (by first|rfl|simp [results, Try.results191, go_sem]<;>rfl) rfl ⟨rfl, h22, ((((Grow.refl (.pointer (some ⟨ba0, 0, none⟩)) _).trans hs10.out).trans (Grow.up hu16.out)).trans hs23.out)⟩

set_option maxHeartbeats 40000000 in
set_option maxRecDepth 100000 in
theorem spec_l01BadField.calls (K : Nat) (ba0 : Nat) (a0_0_A : Option Addr) (a0_0_c : Nat) (a0_0 : List (Int)) (a0_1 : Int) (a0_2 : Int) (a1 : Int) (r0 : Int) (r1 : Int) (r2 : Int) (w : World) (ha0 : Blk w ba0 [.slice a0_0_A a0_0.length a0_0_c, .int .i64 a0_1, .int .u64 a0_2] 158) (ha0_0 : Rd eU8 w a0_0_A a0_0) (haa0_0 : ∀ k, blk (.slice a0_0_A a0_0.length a0_0_c) = some k → 0 < a0_0.length → k ≠ ba0) (h : spec_l01BadField.f K a0_0 a0_1 a0_2 a1 = some (r0, r1, r2)) :
    Calls Try.prog 108 #[.pointer (some ⟨ba0, 0, none⟩), .int .i64 a1] w fun e w' => e = .returned (.int .i64 r0) ∧ Blk w' ba0 [.slice a0_0_A a0_0.length a0_0_c, .int .i64 r1, .int .u64 r2] 158 ∧ Grow (.pointer (some ⟨ba0, 0, none⟩)) w w' := by
 have H : (((spec_l01Next.f K a0_0 a0_1 a0_2 40).bind fun (t4, t5, t6) => (if (t4 == 0) = true then ((spec_l01Pick.f K a0_0 t5 t6 ([2, 1, 0, (-3), 9, 15, 37, 1099511627776])).bind fun (t17, t18, t19) => some (t17, t18, t19)) else some (a1, t5, t6))) : Option (Int × Int × Int)) = some (r0, r1, r2) := h
 clear h
 obtain ⟨⟨t4, t5, t6⟩,A7,H⟩:=Option.bind_eq_some_iff.mp H
 replace A7:=Aside0.mk A7;try dsimp only at H
 have ltba0 := Aside0.mk ha0.lt
 go_enter Try.func108, Try.ntmps108
 refine wp_hide (fun Qf hQf => ?_)
 refine wp_seq_k fun K1 hK1=>wp_region_lit ?_
 refine wpp fun k h=>?_;go_simp;apply h;clear h k
 refine wpList_nil (hK1 _ _ ?_)
 refine wp_seq_k fun K2 hK2=>?_
 refine wp_seq_k fun K3 hK3=>wp_region_lit ?_
 refine wpp fun k h=>?_;go_simp;apply h;clear h k
 refine step_call wn (by go_simp <;> rfl) (spec_l01Next.calls K ba0 a0_0_A a0_0_c a0_0 a0_1 a0_2 40 t4 t5 t6 w ha0 ha0_0 haa0_0 A7.out) ?_
 rintro e w8 ⟨rfl, h9, hs⟩
 have hs10 := Aside0.mk hs
 clear hs
 have h11 := ha0_0.growp hs10.out haa0_0
 refine ⟨_, rfl, ?_⟩
 simp only[Act.put,nm1,nm2,nm3]
 refine wpp fun k h=>?_;go_simp;apply h;clear h k
 refine wpList_nil (hK3 _ _ ?_)
 by_cases c12 : (t4 == 0) = true
 rotate_left
 ·
  rw [if_neg c12] at H; replace c12 := Bool.eq_false_iff.mpr c12
  have c12n : (t4 != 0) = true := by rw [bne, c12]; rfl
  have c12p : ¬ t4 = 0 := fun e => by simp [e] at c12
  simp only [Option.some.injEq, Prod.mk.injEq] at H
  obtain ⟨rfl, rfl, rfl⟩ := H
  try simp only [c12, c12n, Bool.not_true, Bool.not_false]
  refine wp_cond_false rfl ?_
  refine wp_skip ?_
  refine hK2 _ _ ?_
  refine wp_seq_k fun K26 hK26=>wp_region_lit ?_
  iterate 2 (refine wpp fun k h=>?_;go_simp;apply h;clear h k)
  refine wpList_nil (hK26 _ _ ?_)
  refine wp_ret ?_
  refine hQf _ _ _ ?_
  exact bodyPost_ret (v := .int .i64 a1) (by first|rfl|simp [results, Try.results108, go_sem]<;>rfl) rfl ⟨rfl, h9, ((Grow.refl (.pointer (some ⟨ba0, 0, none⟩)) _).trans hs10.out)⟩
 rw [if_pos c12] at H
 have c12n : (t4 != 0) = false := by rw [bne, c12]; rfl
 obtain ⟨⟨t17, t18, t19⟩,A20,H⟩:=Option.bind_eq_some_iff.mp H
 replace A20:=Aside0.mk A20;try dsimp only at H
 simp only [Option.some.injEq, Prod.mk.injEq] at H
 obtain ⟨rfl, rfl, rfl⟩ := H
 try simp only [c12, c12n, Bool.not_true, Bool.not_false]
 refine wp_cond_true rfl ?_
 refine wp_seq_k fun K13 hK13=>wp_region_lit ?_
 refine wpp fun k h=>?_;go_simp;apply h;clear h k
 refine step_new (cs := [.int .i64 2, .int .i64 1, .int .i64 0, .int .i64 (-3), .int .i64 9, .int .i64 15, .int .i64 37, .int .i64 1099511627776]) (T := 2) (f := fun b => .slice (some ⟨b, 0, none⟩) 8 8) rfl (by go_simp <;> rfl) ?_
 intro b14 w15 hu lb hb14
 simp only[Act.put,nm1,nm2,nm3]
 have lbb14 := Aside0.mk lb
 have ltb14 := Aside0.mk hb14.lt
 clear lb
 have hu16 := Aside0.mk hu
 clear hu
 refine step_call wn (by go_simp <;> rfl) (spec_l01Pick.calls K ba0 a0_0_A a0_0_c a0_0 t5 t6 (some ⟨b14, 0, none⟩) 8 ([2, 1, 0, (-3), 9, 15, 37, 1099511627776]) t17 t18 t19 w15 (h9.up hu16.out) (h11.up hu16.out) haa0_0 (Rd.of_blk (E := eI) (xs := [2, 1, 0, (-3), 9, 15, 37, 1099511627776]) (o := 0) hb14 (by simp) (fun j u hu => by rcases j with _ | _ | _ | _ | _ | _ | _ | _ | j <;> simp_all [Enc.flat, eI])) (fun k hk hp e => (Ne.symm (Nat.ne_of_lt (Nat.lt_of_lt_of_le (Nat.lt_of_lt_of_le ltba0.out (hs10.out.size)) lbb14.out))) ((Option.some.inj hk).trans e)) A20.out) ?_
 rintro e w21 ⟨rfl, h22, hs⟩
 have hs23 := Aside0.mk hs
 clear hs
 have h24 := (h11.up hu16.out).growp hs23.out haa0_0
 have h25 := hb14.grow hs23.out (fun k hk e => (Nat.ne_of_lt (Nat.lt_of_lt_of_le (Nat.lt_of_lt_of_le ltba0.out (hs10.out.size)) lbb14.out)) ((Option.some.inj hk).trans e))
 refine ⟨_, rfl, ?_⟩
 simp only[Act.put,nm1,nm2,nm3]
 refine wpp fun k h=>?_;go_simp;apply h;clear h k
 refine wpList_nil (hK13 _ _ ?_)
 refine wp_ret ?_
 refine hQf _ _ _ ?_
 exact bodyPost_ret (v := .int .i64 t17) (by first|rfl|simp [results, Try.results108, go_sem]<;>rfl) rfl ⟨rfl, h22, ((((Grow.refl (.pointer (some ⟨ba0, 0, none⟩)) _).trans hs10.out).trans (Grow.up hu16.out)).trans hs23.out)⟩

set_option maxHeartbeats 40000000 in
set_option maxRecDepth 100000 in
theorem spec_l01BadPoint.calls (K : Nat) (ba0 : Nat) (a0_0_A : Option Addr) (a0_0_c : Nat) (a0_0 : List (Int)) (a0_1 : Int) (a0_2 : Int) (a1 : Int) (a2_0 : Int) (a2_1 : Int) (r0 : Int) (r1 : Int) (r2 : Int) (r3 : Int) (w : World) (ha0 : Blk w ba0 [.slice a0_0_A a0_0.length a0_0_c, .int .i64 a0_1, .int .u64 a0_2] 158) (ha0_0 : Rd eU8 w a0_0_A a0_0) (haa0_0 : ∀ k, blk (.slice a0_0_A a0_0.length a0_0_c) = some k → 0 < a0_0.length → k ≠ ba0) (h : spec_l01BadPoint.f K a0_0 a0_1 a0_2 a1 a2_0 a2_1 = some (r0, r1, r2, r3)) :
    Calls Try.prog 195 #[.pointer (some ⟨ba0, 0, none⟩), .int .i64 a1, .agg #[.int .i64 a2_0, .int .i64 a2_1]] w fun e w' => e = .returned (.agg #[.int .i64 r0, .int .i64 r1]) ∧ Blk w' ba0 [.slice a0_0_A a0_0.length a0_0_c, .int .i64 r2, .int .u64 r3] 158 ∧ Grow (.pointer (some ⟨ba0, 0, none⟩)) w w' := by
 have H : (((spec_l01Next.f K a0_0 a0_1 a0_2 40).bind fun (t10, t11, t12) => (if (t10 == 0) = true then ((spec_l01Next.f K a0_0 t11 t12 2).bind fun (t21, t22, t23) => ((spec_l01Pick.f K a0_0 t22 t23 ([(-1), a1, 1099511627776])).bind fun (t34, t35, t36) => (if (t21 == 0) = true then some (t34, a2_1, t35, t36) else (if (t21 == 1) = true then some (a2_0, t34, t35, t36) else none)))) else some (a2_0, a2_1, t11, t12))) : Option (Int × Int × Int × Int)) = some (r0, r1, r2, r3) := h
 clear h
 obtain ⟨⟨t10, t11, t12⟩,A13,H⟩:=Option.bind_eq_some_iff.mp H
 replace A13:=Aside0.mk A13;try dsimp only at H
 have ltba0 := Aside0.mk ha0.lt
 go_enter Try.func195, Try.ntmps195
 refine wp_hide (fun Qf hQf => ?_)
 refine wp_seq_k fun K1 hK1=>wp_region_lit ?_
 refine step_new (cs := [.int .i64 a2_0, .int .i64 a2_1]) (T := 30) (f := fun b => .pointer (some ⟨b, 0, none⟩)) rfl (by go_simp <;> rfl) ?_
 intro b2 w3 hu lb hb2
 simp only[Act.put,nm1,nm2,nm3]
 have lbb2 := Aside0.mk lb
 have ltb2 := Aside0.mk hb2.lt
 clear lb
 have hu4 := Aside0.mk hu
 clear hu
 refine step_new (cs := [.int .i64 0, .int .i64 0]) (T := 30) (f := fun b => .pointer (some ⟨b, 0, none⟩)) rfl (by go_simp <;> rfl) ?_
 intro b5 w6 hu lb hb5
 simp only[Act.put,nm1,nm2,nm3]
 have lbb5 := Aside0.mk lb
 have ltb5 := Aside0.mk hb5.lt
 clear lb
 have hu7 := Aside0.mk hu
 clear hu
 refine wpList_nil (hK1 _ _ ?_)
 refine wp_seq_k fun K8 hK8=>?_
 refine wp_seq_k fun K9 hK9=>wp_region_lit ?_
 refine wpp fun k h=>?_;go_simp;apply h;clear h k
 refine step_call wn (by go_simp <;> rfl) (spec_l01Next.calls K ba0 a0_0_A a0_0_c a0_0 a0_1 a0_2 40 t10 t11 t12 w6 (ha0.up (hu4.out.trans hu7.out)) (ha0_0.up (hu4.out.trans hu7.out)) haa0_0 A13.out) ?_
 rintro e w14 ⟨rfl, h15, hs⟩
 have hs16 := Aside0.mk hs
 clear hs
 have h17 := (ha0_0.up (hu4.out.trans hu7.out)).growp hs16.out haa0_0
 have h18 := (hb2.up hu7.out).grow hs16.out (fun k hk e => (Nat.ne_of_lt (Nat.lt_of_lt_of_le ltba0.out lbb2.out)) ((Option.some.inj hk).trans e))
 have h19 := hb5.grow hs16.out (fun k hk e => (Nat.ne_of_lt (Nat.lt_of_lt_of_le (Nat.lt_of_lt_of_le ltba0.out (hu4.out.size)) lbb5.out)) ((Option.some.inj hk).trans e))
 refine ⟨_, rfl, ?_⟩
 simp only[Act.put,nm1,nm2,nm3]
 refine wpp fun k h=>?_;go_simp;apply h;clear h k
 refine wpList_nil (hK9 _ _ ?_)
 by_cases c20 : (t10 == 0) = true
 rotate_left
 ·
  rw [if_neg c20] at H; replace c20 := Bool.eq_false_iff.mpr c20
  have c20n : (t10 != 0) = true := by rw [bne, c20]; rfl
  have c20p : ¬ t10 = 0 := fun e => by simp [e] at c20
  simp only [Option.some.injEq, Prod.mk.injEq] at H
  obtain ⟨rfl, rfl, rfl, rfl⟩ := H
  try simp only [c20, c20n, Bool.not_true, Bool.not_false]
  refine wp_cond_false rfl ?_
  refine wp_skip ?_
  refine hK8 _ _ ?_
  refine wp_seq_k fun K76 hK76=>wp_region_lit ?_
  have cl0 := h18.cell (o := 0) rfl
  have cl1 := h18.cell (o := 1) rfl
  refine wpp fun k h=>?_;go_simp;apply h;clear h k
  clear cl0 cl1
  have hB0 := h19
  have cl0 := hB0.cell (o := 0) rfl
  have fr0 := hB0.free 0
  have cl1 := hB0.cell (o := 1) rfl
  have fr1 := hB0.free 1
  refine step_store (b := b5) (cs' := [.int .i64 a2_0, .int .i64 a2_1]) (T := 30) (W' := ((w14.setCell ⟨b5, 0, none⟩ (.int .i64 a2_0)).setCell ⟨b5, 1, none⟩ (.int .i64 a2_1))) rfl rfl (by go_simp <;> rfl) (((Sto.refl _ _).setCell 0 _).setCell 1 _) (((hB0).setCell 0 _).setCell 1 _) ?_
  clear hB0 cl0 fr0 cl1 fr1
  intro w77 hs hb79
  have hs78 := Aside0.mk hs
  clear hs
  have h80 := h15.sto hs78.out (Nat.ne_of_lt (Nat.lt_of_lt_of_le (Nat.lt_of_lt_of_le ltba0.out (hu4.out.size)) lbb5.out))
  have h81 := Rd.sto (c := 0) h17 hs78.out (fun k hk hp => Nat.ne_of_lt (Nat.lt_of_lt_of_le (ha0_0.blk_lt hp k hk) ((Nat.le_trans (hu4.out.size) lbb5.out))))
  have h82 := h18.sto hs78.out (Nat.ne_of_lt (Nat.lt_of_lt_of_le ltb2.out lbb5.out))
  refine wpList_nil (hK76 _ _ ?_)
  refine wp_ret ?_
  refine hQf _ _ _ ?_
  have cr0 := hb79.cell (o := 0) rfl
  have cr1 := hb79.cell (o := 1) rfl
  exact bodyPost_ret (v := .agg #[.int .i64 a2_0, .int .i64 a2_1]) (by first|rfl|simp [results, Try.results195, go_sem, cr0, cr1]<;>rfl) rfl ⟨rfl, h80, (Grow.sto_young ((((Grow.refl (.pointer (some ⟨ba0, 0, none⟩)) _).trans (Grow.up hu4.out)).trans (Grow.up hu7.out)).trans hs16.out) hs78.out (Nat.le_trans (hu4.out.size) lbb5.out))⟩
 rw [if_pos c20] at H
 have c20n : (t10 != 0) = false := by rw [bne, c20]; rfl
 obtain ⟨⟨t21, t22, t23⟩,A24,H⟩:=Option.bind_eq_some_iff.mp H
 replace A24:=Aside0.mk A24;try dsimp only at H
 obtain ⟨⟨t34, t35, t36⟩,A37,H⟩:=Option.bind_eq_some_iff.mp H
 replace A37:=Aside0.mk A37;try dsimp only at H
 try simp only [c20, c20n, Bool.not_true, Bool.not_false]
 refine wp_cond_true rfl ?_
 refine wp_region_lit ?_
 refine wpp fun k h=>?_;go_simp;apply h;clear h k
 refine step_call wn (by go_simp <;> rfl) (spec_l01Next.calls K ba0 a0_0_A a0_0_c a0_0 t11 t12 2 t21 t22 t23 w14 h15 h17 haa0_0 A24.out) ?_
 rintro e w25 ⟨rfl, h26, hs⟩
 have hs27 := Aside0.mk hs
 clear hs
 have h28 := h17.growp hs27.out haa0_0
 have h29 := h18.grow hs27.out (fun k hk e => (Nat.ne_of_lt (Nat.lt_of_lt_of_le ltba0.out lbb2.out)) ((Option.some.inj hk).trans e))
 have h30 := h19.grow hs27.out (fun k hk e => (Nat.ne_of_lt (Nat.lt_of_lt_of_le (Nat.lt_of_lt_of_le ltba0.out (hu4.out.size)) lbb5.out)) ((Option.some.inj hk).trans e))
 refine ⟨_, rfl, ?_⟩
 simp only[Act.put,nm1,nm2,nm3]
 iterate 2 (refine wpp fun k h=>?_;go_simp;apply h;clear h k)
 refine step_new (cs := [.int .i64 (-1), .int .i64 a1, .int .i64 1099511627776]) (T := 2) (f := fun b => .slice (some ⟨b, 0, none⟩) 3 3) rfl (by go_simp <;> rfl) ?_
 intro b31 w32 hu lb hb31
 simp only[Act.put,nm1,nm2,nm3]
 have lbb31 := Aside0.mk lb
 have ltb31 := Aside0.mk hb31.lt
 clear lb
 have hu33 := Aside0.mk hu
 clear hu
 refine step_call wn (by go_simp <;> rfl) (spec_l01Pick.calls K ba0 a0_0_A a0_0_c a0_0 t22 t23 (some ⟨b31, 0, none⟩) 3 ([(-1), a1, 1099511627776]) t34 t35 t36 w32 (h26.up hu33.out) (h28.up hu33.out) haa0_0 (Rd.of_blk (E := eI) (xs := [(-1), a1, 1099511627776]) (o := 0) hb31 (by simp) (fun j u hu => by rcases j with _ | _ | _ | j <;> simp_all [Enc.flat, eI])) (fun k hk hp e => (Ne.symm (Nat.ne_of_lt (Nat.lt_of_lt_of_le (Nat.lt_of_lt_of_le ltba0.out ((Nat.le_trans ((Nat.le_trans ((Nat.le_trans (hu4.out.size) hu7.out.size)) hs16.out.size)) hs27.out.size))) lbb31.out))) ((Option.some.inj hk).trans e)) A37.out) ?_
 rintro e w38 ⟨rfl, h39, hs⟩
 have hs40 := Aside0.mk hs
 clear hs
 have h41 := (h28.up hu33.out).growp hs40.out haa0_0
 have h42 := (h29.up hu33.out).grow hs40.out (fun k hk e => (Nat.ne_of_lt (Nat.lt_of_lt_of_le ltba0.out lbb2.out)) ((Option.some.inj hk).trans e))
 have h43 := (h30.up hu33.out).grow hs40.out (fun k hk e => (Nat.ne_of_lt (Nat.lt_of_lt_of_le (Nat.lt_of_lt_of_le ltba0.out (hu4.out.size)) lbb5.out)) ((Option.some.inj hk).trans e))
 have h44 := hb31.grow hs40.out (fun k hk e => (Nat.ne_of_lt (Nat.lt_of_lt_of_le (Nat.lt_of_lt_of_le ltba0.out ((Nat.le_trans ((Nat.le_trans ((Nat.le_trans (hu4.out.size) hu7.out.size)) hs16.out.size)) hs27.out.size))) lbb31.out)) ((Option.some.inj hk).trans e))
 refine ⟨_, rfl, ?_⟩
 simp only[Act.put,nm1,nm2,nm3]
 have hm46 := Aside0.mk (Nat.le_trans ((Nat.le_trans ((Nat.le_trans ((Nat.le_trans ((Nat.le_trans (hu4.out.size) hu7.out.size)) hs16.out.size)) hs27.out.size)) hu33.out.size)) hs40.out.size)
 by_cases c45 : (t21 == 0) = true
 ·
  rw [if_pos c45] at H
  have c45n : (t21 != 0) = false := by rw [bne, c45]; rfl
  have HX := H;clear H
  obtain rfl : t21 = 0 := by simpa using c45
  have H := HX;clear HX
  simp only [Option.some.injEq, Prod.mk.injEq] at H
  obtain ⟨rfl, rfl, rfl, rfl⟩ := H
  try simp only [c45, c45n, Bool.not_true, Bool.not_false]
  refine wpp fun k h=>?_;go_simp;apply h;clear h k
  have hB0 := h42
  have cl0 := hB0.cell (o := 0) rfl
  have fr0 := hB0.free 0
  refine step_store (b := b2) (cs' := [.int .i64 t34, .int .i64 a2_1]) (T := 30) (W' := (w38.setCell ⟨b2, 0, none⟩ (.int .i64 t34))) rfl rfl (by go_simp <;> rfl) ((Sto.refl _ _).setCell 0 _) ((hB0).setCell 0 _) ?_
  clear hB0 cl0 fr0
  intro w47 hs hb49
  have hs48 := Aside0.mk hs
  clear hs
  have h50 := h39.sto hs48.out (Nat.ne_of_lt (Nat.lt_of_lt_of_le ltba0.out lbb2.out))
  have h51 := Rd.sto (c := 0) h41 hs48.out (fun k hk hp => Nat.ne_of_lt (Nat.lt_of_lt_of_le (ha0_0.blk_lt hp k hk) (lbb2.out)))
  have h52 := h43.sto hs48.out (Ne.symm (Nat.ne_of_lt (Nat.lt_of_lt_of_le ltb2.out lbb5.out)))
  have h53 := h44.sto hs48.out (Ne.symm (Nat.ne_of_lt (Nat.lt_of_lt_of_le (Nat.lt_of_lt_of_le ltb2.out ((Nat.le_trans ((Nat.le_trans (hu7.out.size) hs16.out.size)) hs27.out.size))) lbb31.out)))
  refine wpList_nil (hK8 _ _ ?_)
  refine wp_seq_k fun K54 hK54=>wp_region_lit ?_
  have cl0 := hb49.cell (o := 0) rfl
  have cl1 := hb49.cell (o := 1) rfl
  refine wpp fun k h=>?_;go_simp;apply h;clear h k
  clear cl0 cl1
  have hB0 := h52
  have cl0 := hB0.cell (o := 0) rfl
  have fr0 := hB0.free 0
  have cl1 := hB0.cell (o := 1) rfl
  have fr1 := hB0.free 1
  refine step_store (b := b5) (cs' := [.int .i64 t34, .int .i64 a2_1]) (T := 30) (W' := ((w47.setCell ⟨b5, 0, none⟩ (.int .i64 t34)).setCell ⟨b5, 1, none⟩ (.int .i64 a2_1))) rfl rfl (by go_simp <;> rfl) (((Sto.refl _ _).setCell 0 _).setCell 1 _) (((hB0).setCell 0 _).setCell 1 _) ?_
  clear hB0 cl0 fr0 cl1 fr1
  intro w55 hs hb57
  have hs56 := Aside0.mk hs
  clear hs
  have h58 := h50.sto hs56.out (Nat.ne_of_lt (Nat.lt_of_lt_of_le (Nat.lt_of_lt_of_le ltba0.out (hu4.out.size)) lbb5.out))
  have h59 := Rd.sto (c := 0) h51 hs56.out (fun k hk hp => Nat.ne_of_lt (Nat.lt_of_lt_of_le (ha0_0.blk_lt hp k hk) ((Nat.le_trans (hu4.out.size) lbb5.out))))
  have h60 := hb49.sto hs56.out (Nat.ne_of_lt (Nat.lt_of_lt_of_le ltb2.out lbb5.out))
  refine wpList_nil (hK54 _ _ ?_)
  refine wp_ret ?_
  refine hQf _ _ _ ?_
  have cr0 := hb57.cell (o := 0) rfl
  have cr1 := hb57.cell (o := 1) rfl
  exact bodyPost_ret (v := .agg #[.int .i64 t34, .int .i64 a2_1]) (by first|rfl|simp [results, Try.results195, go_sem, cr0, cr1]<;>rfl) rfl ⟨rfl, h58, (Grow.sto_young (Grow.sto_young (((((((Grow.refl (.pointer (some ⟨ba0, 0, none⟩)) _).trans (Grow.up hu4.out)).trans (Grow.up hu7.out)).trans hs16.out).trans hs27.out).trans (Grow.up hu33.out)).trans hs40.out) hs48.out (Nat.le_trans (Nat.le_refl _) lbb2.out)) hs56.out (Nat.le_trans (hu4.out.size) lbb5.out))⟩
 rw [if_neg c45] at H; replace c45 := Bool.eq_false_iff.mpr c45
 have c45n : (t21 != 0) = true := by rw [bne, c45]; rfl
 have c45p : ¬ t21 = 0 := fun e => by simp [e] at c45
 try simp only [c45, c45n, Bool.not_true, Bool.not_false]
 by_cases c61 : (t21 == 1) = true
 rotate_left
 ·
  rw [if_neg c61] at H; replace c61 := Bool.eq_false_iff.mpr c61
  have c61n : (t21 != 1) = true := by rw [bne, c61]; rfl
  have c61p : ¬ t21 = 1 := fun e => by simp [e] at c61
  exact absurd H (by simp)
 rw [if_pos c61] at H
 have c61n : (t21 != 1) = false := by rw [bne, c61]; rfl
 have HX := H;clear H
 obtain rfl : t21 = 1 := by simpa using c61
 have H := HX;clear HX
 simp only [Option.some.injEq, Prod.mk.injEq] at H
 obtain ⟨rfl, rfl, rfl, rfl⟩ := H
 try simp only [c61, c61n, Bool.not_true, Bool.not_false]
 refine wpp fun k h=>?_;go_simp;apply h;clear h k
 have hB0 := h42
 have cl0 := hB0.cell (o := 1) rfl
 have fr0 := hB0.free 1
 refine step_store (b := b2) (cs' := [.int .i64 a2_0, .int .i64 t34]) (T := 30) (W' := (w38.setCell ⟨b2, 1, none⟩ (.int .i64 t34))) rfl rfl (by go_simp <;> rfl) ((Sto.refl _ _).setCell 1 _) ((hB0).setCell 1 _) ?_
 clear hB0 cl0 fr0
 intro w62 hs hb64
 have hs63 := Aside0.mk hs
 clear hs
 have h65 := h39.sto hs63.out (Nat.ne_of_lt (Nat.lt_of_lt_of_le ltba0.out lbb2.out))
 have h66 := Rd.sto (c := 0) h41 hs63.out (fun k hk hp => Nat.ne_of_lt (Nat.lt_of_lt_of_le (ha0_0.blk_lt hp k hk) (lbb2.out)))
 have h67 := h43.sto hs63.out (Ne.symm (Nat.ne_of_lt (Nat.lt_of_lt_of_le ltb2.out lbb5.out)))
 have h68 := h44.sto hs63.out (Ne.symm (Nat.ne_of_lt (Nat.lt_of_lt_of_le (Nat.lt_of_lt_of_le ltb2.out ((Nat.le_trans ((Nat.le_trans (hu7.out.size) hs16.out.size)) hs27.out.size))) lbb31.out)))
 refine wpList_nil (hK8 _ _ ?_)
 refine wp_seq_k fun K69 hK69=>wp_region_lit ?_
 have cl0 := hb64.cell (o := 0) rfl
 have cl1 := hb64.cell (o := 1) rfl
 refine wpp fun k h=>?_;go_simp;apply h;clear h k
 clear cl0 cl1
 have hB0 := h67
 have cl0 := hB0.cell (o := 0) rfl
 have fr0 := hB0.free 0
 have cl1 := hB0.cell (o := 1) rfl
 have fr1 := hB0.free 1
 refine step_store (b := b5) (cs' := [.int .i64 a2_0, .int .i64 t34]) (T := 30) (W' := ((w62.setCell ⟨b5, 0, none⟩ (.int .i64 a2_0)).setCell ⟨b5, 1, none⟩ (.int .i64 t34))) rfl rfl (by go_simp <;> rfl) (((Sto.refl _ _).setCell 0 _).setCell 1 _) (((hB0).setCell 0 _).setCell 1 _) ?_
 clear hB0 cl0 fr0 cl1 fr1
 intro w70 hs hb72
 have hs71 := Aside0.mk hs
 clear hs
 have h73 := h65.sto hs71.out (Nat.ne_of_lt (Nat.lt_of_lt_of_le (Nat.lt_of_lt_of_le ltba0.out (hu4.out.size)) lbb5.out))
 have h74 := Rd.sto (c := 0) h66 hs71.out (fun k hk hp => Nat.ne_of_lt (Nat.lt_of_lt_of_le (ha0_0.blk_lt hp k hk) ((Nat.le_trans (hu4.out.size) lbb5.out))))
 have h75 := hb64.sto hs71.out (Nat.ne_of_lt (Nat.lt_of_lt_of_le ltb2.out lbb5.out))
 refine wpList_nil (hK69 _ _ ?_)
 refine wp_ret ?_
 refine hQf _ _ _ ?_
 have cr0 := hb72.cell (o := 0) rfl
 have cr1 := hb72.cell (o := 1) rfl
 exact bodyPost_ret (v := .agg #[.int .i64 a2_0, .int .i64 t34]) (by first|rfl|simp [results, Try.results195, go_sem, cr0, cr1]<;>rfl) rfl ⟨rfl, h73, (Grow.sto_young (Grow.sto_young (((((((Grow.refl (.pointer (some ⟨ba0, 0, none⟩)) _).trans (Grow.up hu4.out)).trans (Grow.up hu7.out)).trans hs16.out).trans hs27.out).trans (Grow.up hu33.out)).trans hs40.out) hs63.out (Nat.le_trans (Nat.le_refl _) lbb2.out)) hs71.out (Nat.le_trans (hu4.out.size) lbb5.out))⟩

set_option maxHeartbeats 40000000 in
set_option maxRecDepth 100000 in
theorem spec_l06Bad.calls (K : Nat) (ba0 : Nat) (a0_0_A : Option Addr) (a0_0_c : Nat) (a0_0 : List (Int)) (a0_1 : Int) (a0_2 : Int) (a1 : Int) (a2_0 : Int) (a2_1 : Int) (a2_2 : Int) (r0 : Int) (r1 : Int) (r2 : Int) (r3 : Int) (r4 : Int) (w : World) (ha0 : Blk w ba0 [.slice a0_0_A a0_0.length a0_0_c, .int .i64 a0_1, .int .u64 a0_2] 158) (ha0_0 : Rd eU8 w a0_0_A a0_0) (haa0_0 : ∀ k, blk (.slice a0_0_A a0_0.length a0_0_c) = some k → 0 < a0_0.length → k ≠ ba0) (h : spec_l06Bad.f K a0_0 a0_1 a0_2 a1 a2_0 a2_1 a2_2 = some (r0, r1, r2, r3, r4)) :
    Calls Try.prog 192 #[.pointer (some ⟨ba0, 0, none⟩), .int .i64 a1, .agg #[.int .i64 a2_0, .int .i64 a2_1, .int .i64 a2_2]] w fun e w' => e = .returned (.agg #[.int .i64 r0, .int .i64 r1, .int .i64 r2]) ∧ Blk w' ba0 [.slice a0_0_A a0_0.length a0_0_c, .int .i64 r3, .int .u64 r4] 158 ∧ Grow (.pointer (some ⟨ba0, 0, none⟩)) w w' := by
 have H : (((spec_l01Next.f K a0_0 a0_1 a0_2 40).bind fun (t10, t11, t12) => (if (t10 == 0) = true then ((spec_l01BadPoint.f K a0_0 t11 t12 a1 (-1) 0).bind fun (t22, t23, t24, t25) => some (t22, t23, a2_2, t24, t25)) else (if (t10 == 1) = true then ((spec_l01Pick.f K a0_0 t11 t12 ([(-1), a1, 1099511627776])).bind fun (t51, t52, t53) => some (a2_0, a2_1, t51, t52, t53)) else some (a2_0, a2_1, a2_2, t11, t12)))) : Option (Int × Int × Int × Int × Int)) = some (r0, r1, r2, r3, r4) := h
 clear h
 obtain ⟨⟨t10, t11, t12⟩,A13,H⟩:=Option.bind_eq_some_iff.mp H
 replace A13:=Aside0.mk A13;try dsimp only at H
 have ltba0 := Aside0.mk ha0.lt
 go_enter Try.func192, Try.ntmps192
 refine wp_hide (fun Qf hQf => ?_)
 refine wp_seq_k fun K1 hK1=>wp_region_lit ?_
 refine step_new (cs := [.int .i64 a2_0, .int .i64 a2_1, .int .i64 a2_2]) (T := 71) (f := fun b => .pointer (some ⟨b, 0, none⟩)) rfl (by go_simp <;> rfl) ?_
 intro b2 w3 hu lb hb2
 simp only[Act.put,nm1,nm2,nm3]
 have lbb2 := Aside0.mk lb
 have ltb2 := Aside0.mk hb2.lt
 clear lb
 have hu4 := Aside0.mk hu
 clear hu
 refine step_new (cs := [.int .i64 0, .int .i64 0, .int .i64 0]) (T := 71) (f := fun b => .pointer (some ⟨b, 0, none⟩)) rfl (by go_simp <;> rfl) ?_
 intro b5 w6 hu lb hb5
 simp only[Act.put,nm1,nm2,nm3]
 have lbb5 := Aside0.mk lb
 have ltb5 := Aside0.mk hb5.lt
 clear lb
 have hu7 := Aside0.mk hu
 clear hu
 refine wpList_nil (hK1 _ _ ?_)
 refine wp_seq_k fun K8 hK8=>?_
 refine wp_seq_k fun K9 hK9=>wp_region_lit ?_
 refine wpp fun k h=>?_;go_simp;apply h;clear h k
 refine step_call wn (by go_simp <;> rfl) (spec_l01Next.calls K ba0 a0_0_A a0_0_c a0_0 a0_1 a0_2 40 t10 t11 t12 w6 (ha0.up (hu4.out.trans hu7.out)) (ha0_0.up (hu4.out.trans hu7.out)) haa0_0 A13.out) ?_
 rintro e w14 ⟨rfl, h15, hs⟩
 have hs16 := Aside0.mk hs
 clear hs
 have h17 := (ha0_0.up (hu4.out.trans hu7.out)).growp hs16.out haa0_0
 have h18 := (hb2.up hu7.out).grow hs16.out (fun k hk e => (Nat.ne_of_lt (Nat.lt_of_lt_of_le ltba0.out lbb2.out)) ((Option.some.inj hk).trans e))
 have h19 := hb5.grow hs16.out (fun k hk e => (Nat.ne_of_lt (Nat.lt_of_lt_of_le (Nat.lt_of_lt_of_le ltba0.out (hu4.out.size)) lbb5.out)) ((Option.some.inj hk).trans e))
 refine ⟨_, rfl, ?_⟩
 simp only[Act.put,nm1,nm2,nm3]
 refine wpList_nil (hK9 _ _ ?_)
 refine wp_block ?_
 refine wp_seq_k fun K20 hK20=>wp_region_lit ?_
 iterate 2 (refine wpp fun k h=>?_;go_simp;apply h;clear h k)
 refine wpList_nil (hK20 _ _ ?_)
 by_cases c21 : (t10 == 0) = true
 ·
  rw [if_pos c21] at H
  have c21n : (t10 != 0) = false := by rw [bne, c21]; rfl
  obtain ⟨⟨t22, t23, t24, t25⟩,A26,H⟩:=Option.bind_eq_some_iff.mp H
  replace A26:=Aside0.mk A26;try dsimp only at H
  simp only [Option.some.injEq, Prod.mk.injEq] at H
  obtain ⟨rfl, rfl, rfl, rfl, rfl⟩ := H
  try simp only [c21, c21n, Bool.not_true, Bool.not_false]
  refine wp_cond_true rfl ?_
  refine wp_region_lit ?_
  iterate 3 (refine wpp fun k h=>?_;go_simp;apply h;clear h k)
  refine step_call wn (by go_simp <;> rfl) (spec_l01BadPoint.calls K ba0 a0_0_A a0_0_c a0_0 t11 t12 a1 (-1) 0 t22 t23 t24 t25 w14 h15 h17 haa0_0 A26.out) ?_
  rintro e w27 ⟨rfl, h28, hs⟩
  have hs29 := Aside0.mk hs
  clear hs
  have h30 := h17.growp hs29.out haa0_0
  have h31 := h18.grow hs29.out (fun k hk e => (Nat.ne_of_lt (Nat.lt_of_lt_of_le ltba0.out lbb2.out)) ((Option.some.inj hk).trans e))
  have h32 := h19.grow hs29.out (fun k hk e => (Nat.ne_of_lt (Nat.lt_of_lt_of_le (Nat.lt_of_lt_of_le ltba0.out (hu4.out.size)) lbb5.out)) ((Option.some.inj hk).trans e))
  refine ⟨_, rfl, ?_⟩
  simp only[Act.put,nm1,nm2,nm3]
  refine wpp fun k h=>?_;go_simp;apply h;clear h k
  have hB0 := h31
  have cl0 := hB0.cell (o := 0) rfl
  have fr0 := hB0.free 0
  have cl1 := hB0.cell (o := 1) rfl
  have fr1 := hB0.free 1
  refine step_store (b := b2) (cs' := [.int .i64 t22, .int .i64 t23, .int .i64 a2_2]) (T := 71) (W' := ((w27.setCell ⟨b2, 0, none⟩ (.int .i64 t22)).setCell ⟨b2, 1, none⟩ (.int .i64 t23))) rfl rfl (by go_simp <;> rfl) (((Sto.refl _ _).setCell 0 _).setCell 1 _) (((hB0).setCell 0 _).setCell 1 _) ?_
  clear hB0 cl0 fr0 cl1 fr1
  intro w33 hs hb35
  have hs34 := Aside0.mk hs
  clear hs
  have h36 := h28.sto hs34.out (Nat.ne_of_lt (Nat.lt_of_lt_of_le ltba0.out lbb2.out))
  have h37 := Rd.sto (c := 0) h30 hs34.out (fun k hk hp => Nat.ne_of_lt (Nat.lt_of_lt_of_le (ha0_0.blk_lt hp k hk) (lbb2.out)))
  have h38 := h32.sto hs34.out (Ne.symm (Nat.ne_of_lt (Nat.lt_of_lt_of_le ltb2.out lbb5.out)))
  refine wpList_nil (hK8 _ _ ?_)
  refine wp_seq_k fun K39 hK39=>wp_region_lit ?_
  have cl0 := hb35.cell (o := 0) rfl
  have cl1 := hb35.cell (o := 1) rfl
  have cl2 := hb35.cell (o := 2) rfl
  refine wpp fun k h=>?_;go_simp;apply h;clear h k
  clear cl0 cl1 cl2
  have hB0 := h38
  have cl0 := hB0.cell (o := 0) rfl
  have fr0 := hB0.free 0
  have cl1 := hB0.cell (o := 1) rfl
  have fr1 := hB0.free 1
  have cl2 := hB0.cell (o := 2) rfl
  have fr2 := hB0.free 2
  refine step_store (b := b5) (cs' := [.int .i64 t22, .int .i64 t23, .int .i64 a2_2]) (T := 71) (W' := (((w33.setCell ⟨b5, 0, none⟩ (.int .i64 t22)).setCell ⟨b5, 1, none⟩ (.int .i64 t23)).setCell ⟨b5, 2, none⟩ (.int .i64 a2_2))) rfl rfl (by go_simp <;> rfl) ((((Sto.refl _ _).setCell 0 _).setCell 1 _).setCell 2 _) ((((hB0).setCell 0 _).setCell 1 _).setCell 2 _) ?_
  clear hB0 cl0 fr0 cl1 fr1 cl2 fr2
  intro w40 hs hb42
  have hs41 := Aside0.mk hs
  clear hs
  have h43 := h36.sto hs41.out (Nat.ne_of_lt (Nat.lt_of_lt_of_le (Nat.lt_of_lt_of_le ltba0.out (hu4.out.size)) lbb5.out))
  have h44 := Rd.sto (c := 0) h37 hs41.out (fun k hk hp => Nat.ne_of_lt (Nat.lt_of_lt_of_le (ha0_0.blk_lt hp k hk) ((Nat.le_trans (hu4.out.size) lbb5.out))))
  have h45 := hb35.sto hs41.out (Nat.ne_of_lt (Nat.lt_of_lt_of_le ltb2.out lbb5.out))
  refine wpList_nil (hK39 _ _ ?_)
  refine wp_ret ?_
  refine hQf _ _ _ ?_
  have cr0 := hb42.cell (o := 0) rfl
  have cr1 := hb42.cell (o := 1) rfl
  have cr2 := hb42.cell (o := 2) rfl
  exact bodyPost_ret (v := .agg #[.int .i64 t22, .int .i64 t23, .int .i64 a2_2]) (by first|rfl|simp [results, Try.results192, go_sem, cr0, cr1, cr2]<;>rfl) rfl ⟨rfl, h43, (Grow.sto_young (Grow.sto_young (((((Grow.refl (.pointer (some ⟨ba0, 0, none⟩)) _).trans (Grow.up hu4.out)).trans (Grow.up hu7.out)).trans hs16.out).trans hs29.out) hs34.out (Nat.le_trans (Nat.le_refl _) lbb2.out)) hs41.out (Nat.le_trans (hu4.out.size) lbb5.out))⟩
 rw [if_neg c21] at H; replace c21 := Bool.eq_false_iff.mpr c21
 have c21n : (t10 != 0) = true := by rw [bne, c21]; rfl
 have c21p : ¬ t10 = 0 := fun e => by simp [e] at c21
 try simp only [c21, c21n, Bool.not_true, Bool.not_false]
 refine wp_cond_false rfl ?_
 refine wp_seq_k fun K46 hK46=>wp_region_lit ?_
 iterate 2 (refine wpp fun k h=>?_;go_simp;apply h;clear h k)
 refine wpList_nil (hK46 _ _ ?_)
 by_cases c47 : (t10 == 1) = true
 rotate_left
 ·
  rw [if_neg c47] at H; replace c47 := Bool.eq_false_iff.mpr c47
  have c47n : (t10 != 1) = true := by rw [bne, c47]; rfl
  have c47p : ¬ t10 = 1 := fun e => by simp [e] at c47
  simp only [Option.some.injEq, Prod.mk.injEq] at H
  obtain ⟨rfl, rfl, rfl, rfl, rfl⟩ := H
  try simp only [c47, c47n, Bool.not_true, Bool.not_false]
  refine wp_cond_false rfl ?_
  refine wp_skip ?_
  refine hK8 _ _ ?_
  refine wp_seq_k fun K76 hK76=>wp_region_lit ?_
  have cl0 := h18.cell (o := 0) rfl
  have cl1 := h18.cell (o := 1) rfl
  have cl2 := h18.cell (o := 2) rfl
  refine wpp fun k h=>?_;go_simp;apply h;clear h k
  clear cl0 cl1 cl2
  have hB0 := h19
  have cl0 := hB0.cell (o := 0) rfl
  have fr0 := hB0.free 0
  have cl1 := hB0.cell (o := 1) rfl
  have fr1 := hB0.free 1
  have cl2 := hB0.cell (o := 2) rfl
  have fr2 := hB0.free 2
  refine step_store (b := b5) (cs' := [.int .i64 a2_0, .int .i64 a2_1, .int .i64 a2_2]) (T := 71) (W' := (((w14.setCell ⟨b5, 0, none⟩ (.int .i64 a2_0)).setCell ⟨b5, 1, none⟩ (.int .i64 a2_1)).setCell ⟨b5, 2, none⟩ (.int .i64 a2_2))) rfl rfl (by go_simp <;> rfl) ((((Sto.refl _ _).setCell 0 _).setCell 1 _).setCell 2 _) ((((hB0).setCell 0 _).setCell 1 _).setCell 2 _) ?_
  clear hB0 cl0 fr0 cl1 fr1 cl2 fr2
  intro w77 hs hb79
  have hs78 := Aside0.mk hs
  clear hs
  have h80 := h15.sto hs78.out (Nat.ne_of_lt (Nat.lt_of_lt_of_le (Nat.lt_of_lt_of_le ltba0.out (hu4.out.size)) lbb5.out))
  have h81 := Rd.sto (c := 0) h17 hs78.out (fun k hk hp => Nat.ne_of_lt (Nat.lt_of_lt_of_le (ha0_0.blk_lt hp k hk) ((Nat.le_trans (hu4.out.size) lbb5.out))))
  have h82 := h18.sto hs78.out (Nat.ne_of_lt (Nat.lt_of_lt_of_le ltb2.out lbb5.out))
  refine wpList_nil (hK76 _ _ ?_)
  refine wp_ret ?_
  refine hQf _ _ _ ?_
  have cr0 := hb79.cell (o := 0) rfl
  have cr1 := hb79.cell (o := 1) rfl
  have cr2 := hb79.cell (o := 2) rfl
  exact bodyPost_ret (v := .agg #[.int .i64 a2_0, .int .i64 a2_1, .int .i64 a2_2]) (by first|rfl|simp [results, Try.results192, go_sem, cr0, cr1, cr2]<;>rfl) rfl ⟨rfl, h80, (Grow.sto_young ((((Grow.refl (.pointer (some ⟨ba0, 0, none⟩)) _).trans (Grow.up hu4.out)).trans (Grow.up hu7.out)).trans hs16.out) hs78.out (Nat.le_trans (hu4.out.size) lbb5.out))⟩
 rw [if_pos c47] at H
 have c47n : (t10 != 1) = false := by rw [bne, c47]; rfl
 obtain ⟨⟨t51, t52, t53⟩,A54,H⟩:=Option.bind_eq_some_iff.mp H
 replace A54:=Aside0.mk A54;try dsimp only at H
 simp only [Option.some.injEq, Prod.mk.injEq] at H
 obtain ⟨rfl, rfl, rfl, rfl, rfl⟩ := H
 try simp only [c47, c47n, Bool.not_true, Bool.not_false]
 refine wp_cond_true rfl ?_
 refine wp_region_lit ?_
 iterate 2 (refine wpp fun k h=>?_;go_simp;apply h;clear h k)
 refine step_new (cs := [.int .i64 (-1), .int .i64 a1, .int .i64 1099511627776]) (T := 2) (f := fun b => .slice (some ⟨b, 0, none⟩) 3 3) rfl (by go_simp <;> rfl) ?_
 intro b48 w49 hu lb hb48
 simp only[Act.put,nm1,nm2,nm3]
 have lbb48 := Aside0.mk lb
 have ltb48 := Aside0.mk hb48.lt
 clear lb
 have hu50 := Aside0.mk hu
 clear hu
 refine step_call wn (by go_simp <;> rfl) (spec_l01Pick.calls K ba0 a0_0_A a0_0_c a0_0 t11 t12 (some ⟨b48, 0, none⟩) 3 ([(-1), a1, 1099511627776]) t51 t52 t53 w49 (h15.up hu50.out) (h17.up hu50.out) haa0_0 (Rd.of_blk (E := eI) (xs := [(-1), a1, 1099511627776]) (o := 0) hb48 (by simp) (fun j u hu => by rcases j with _ | _ | _ | j <;> simp_all [Enc.flat, eI])) (fun k hk hp e => (Ne.symm (Nat.ne_of_lt (Nat.lt_of_lt_of_le (Nat.lt_of_lt_of_le ltba0.out ((Nat.le_trans ((Nat.le_trans (hu4.out.size) hu7.out.size)) hs16.out.size))) lbb48.out))) ((Option.some.inj hk).trans e)) A54.out) ?_
 rintro e w55 ⟨rfl, h56, hs⟩
 have hs57 := Aside0.mk hs
 clear hs
 have h58 := (h17.up hu50.out).growp hs57.out haa0_0
 have h59 := (h18.up hu50.out).grow hs57.out (fun k hk e => (Nat.ne_of_lt (Nat.lt_of_lt_of_le ltba0.out lbb2.out)) ((Option.some.inj hk).trans e))
 have h60 := (h19.up hu50.out).grow hs57.out (fun k hk e => (Nat.ne_of_lt (Nat.lt_of_lt_of_le (Nat.lt_of_lt_of_le ltba0.out (hu4.out.size)) lbb5.out)) ((Option.some.inj hk).trans e))
 have h61 := hb48.grow hs57.out (fun k hk e => (Nat.ne_of_lt (Nat.lt_of_lt_of_le (Nat.lt_of_lt_of_le ltba0.out ((Nat.le_trans ((Nat.le_trans (hu4.out.size) hu7.out.size)) hs16.out.size))) lbb48.out)) ((Option.some.inj hk).trans e))
 refine ⟨_, rfl, ?_⟩
 simp only[Act.put,nm1,nm2,nm3]
 refine wpp fun k h=>?_;go_simp;apply h;clear h k
 have hB0 := h59
 have cl0 := hB0.cell (o := 2) rfl
 have fr0 := hB0.free 2
 refine step_store (b := b2) (cs' := [.int .i64 a2_0, .int .i64 a2_1, .int .i64 t51]) (T := 71) (W' := (w55.setCell ⟨b2, 2, none⟩ (.int .i64 t51))) rfl rfl (by go_simp <;> rfl) ((Sto.refl _ _).setCell 2 _) ((hB0).setCell 2 _) ?_
 clear hB0 cl0 fr0
 intro w62 hs hb64
 have hs63 := Aside0.mk hs
 clear hs
 have h65 := h56.sto hs63.out (Nat.ne_of_lt (Nat.lt_of_lt_of_le ltba0.out lbb2.out))
 have h66 := Rd.sto (c := 0) h58 hs63.out (fun k hk hp => Nat.ne_of_lt (Nat.lt_of_lt_of_le (ha0_0.blk_lt hp k hk) (lbb2.out)))
 have h67 := h60.sto hs63.out (Ne.symm (Nat.ne_of_lt (Nat.lt_of_lt_of_le ltb2.out lbb5.out)))
 have h68 := h61.sto hs63.out (Ne.symm (Nat.ne_of_lt (Nat.lt_of_lt_of_le (Nat.lt_of_lt_of_le ltb2.out ((Nat.le_trans (hu7.out.size) hs16.out.size))) lbb48.out)))
 refine wpList_nil (hK8 _ _ ?_)
 refine wp_seq_k fun K69 hK69=>wp_region_lit ?_
 have cl0 := hb64.cell (o := 0) rfl
 have cl1 := hb64.cell (o := 1) rfl
 have cl2 := hb64.cell (o := 2) rfl
 refine wpp fun k h=>?_;go_simp;apply h;clear h k
 clear cl0 cl1 cl2
 have hB0 := h67
 have cl0 := hB0.cell (o := 0) rfl
 have fr0 := hB0.free 0
 have cl1 := hB0.cell (o := 1) rfl
 have fr1 := hB0.free 1
 have cl2 := hB0.cell (o := 2) rfl
 have fr2 := hB0.free 2
 refine step_store (b := b5) (cs' := [.int .i64 a2_0, .int .i64 a2_1, .int .i64 t51]) (T := 71) (W' := (((w62.setCell ⟨b5, 0, none⟩ (.int .i64 a2_0)).setCell ⟨b5, 1, none⟩ (.int .i64 a2_1)).setCell ⟨b5, 2, none⟩ (.int .i64 t51))) rfl rfl (by go_simp <;> rfl) ((((Sto.refl _ _).setCell 0 _).setCell 1 _).setCell 2 _) ((((hB0).setCell 0 _).setCell 1 _).setCell 2 _) ?_
 clear hB0 cl0 fr0 cl1 fr1 cl2 fr2
 intro w70 hs hb72
 have hs71 := Aside0.mk hs
 clear hs
 have h73 := h65.sto hs71.out (Nat.ne_of_lt (Nat.lt_of_lt_of_le (Nat.lt_of_lt_of_le ltba0.out (hu4.out.size)) lbb5.out))
 have h74 := Rd.sto (c := 0) h66 hs71.out (fun k hk hp => Nat.ne_of_lt (Nat.lt_of_lt_of_le (ha0_0.blk_lt hp k hk) ((Nat.le_trans (hu4.out.size) lbb5.out))))
 have h75 := hb64.sto hs71.out (Nat.ne_of_lt (Nat.lt_of_lt_of_le ltb2.out lbb5.out))
 refine wpList_nil (hK69 _ _ ?_)
 refine wp_ret ?_
 refine hQf _ _ _ ?_
 have cr0 := hb72.cell (o := 0) rfl
 have cr1 := hb72.cell (o := 1) rfl
 have cr2 := hb72.cell (o := 2) rfl
 exact bodyPost_ret (v := .agg #[.int .i64 a2_0, .int .i64 a2_1, .int .i64 t51]) (by first|rfl|simp [results, Try.results192, go_sem, cr0, cr1, cr2]<;>rfl) rfl ⟨rfl, h73, (Grow.sto_young (Grow.sto_young ((((((Grow.refl (.pointer (some ⟨ba0, 0, none⟩)) _).trans (Grow.up hu4.out)).trans (Grow.up hu7.out)).trans hs16.out).trans (Grow.up hu50.out)).trans hs57.out) hs63.out (Nat.le_trans (Nat.le_refl _) lbb2.out)) hs71.out (Nat.le_trans (hu4.out.size) lbb5.out))⟩

set_option maxHeartbeats 40000000 in
set_option maxRecDepth 100000 in
theorem spec_l06Two.calls (K : Nat) (a0_A : Option Addr) (a0_c : Nat) (a0 : List (Int)) (r0 : Int) (r1 : Int) (r2 : Int) (r3 : Int) (r4 : Int) (r5 : Int) (r6 : Int) (r7 : Int) (w : World) (ha0 : Rd eU8 w a0_A a0) (h : spec_l06Two.f K a0 = some (r0, r1, r2, r3, r4, r5, r6, r7)) :
    Calls Try.prog 141 #[.slice a0_A a0.length a0_c] w fun e w' => e = .returned (.tuple #[.int .i64 r0, .int .i64 r1, .agg #[.int .i64 r2, .int .i64 r3, .int .i64 r4], .agg #[.int .i64 r5, .int .i64 r6, .int .i64 r7]]) ∧ Up w w' := by
 have H : (((spec_l01From.f K a0).bind fun (t10, t11) => ((spec_l01DrawField.f K a0 t10 t11).bind fun (t16, t17, t18) => ((spec_l06DrawOf.f K a0 t17 t18 t16).bind fun (t24, t25, t26, t27, t28) => ((spec_l06DrawOf.f K a0 t27 t28 t16).bind fun (t33, t34, t35, t36, t37) => ((spec_l02DrawColour.f K a0 t36 t37).bind fun (t42, t43, t44) => ((spec_l01Next.f K a0 t43 t44 8).bind fun (t65, t66, t67) => (if (t65 == 0) = true then ((spec_l01BadField.f K a0 t66 t67 t16).bind fun (t90, t91, t92) => ((spec_l06Bad.f K a0 t91 t92 t16 t24 t25 t26).bind fun (t101, t102, t103, t104, t105) => ((spec_l06Bad.f K a0 t104 t105 t16 t24 t25 t35).bind fun (t114, t115, t116, t117, t118) => some (t90, t42, t101, t102, t103, t114, t115, t116)))) else ((spec_l01BadField.f K a0 t66 t67 t16).bind fun (t146, t147, t148) => ((spec_l06Bad.f K a0 t147 t148 t16 t24 t25 t26).bind fun (t157, t158, t159, t160, t161) => ((spec_l06Bad.f K a0 t160 t161 t16 t33 t34 t35).bind fun (t170, t171, t172, t173, t174) => some (t146, t42, t157, t158, t159, t170, t171, t172))))))))))) : Option (Int × Int × Int × Int × Int × Int × Int × Int)) = some (r0, r1, r2, r3, r4, r5, r6, r7) := h
 clear h
 obtain ⟨⟨t10, t11⟩,A12,H⟩:=Option.bind_eq_some_iff.mp H
 replace A12:=Aside0.mk A12;try dsimp only at H
 obtain ⟨⟨t16, t17, t18⟩,A19,H⟩:=Option.bind_eq_some_iff.mp H
 replace A19:=Aside0.mk A19;try dsimp only at H
 obtain ⟨⟨t24, t25, t26, t27, t28⟩,A29,H⟩:=Option.bind_eq_some_iff.mp H
 replace A29:=Aside0.mk A29;try dsimp only at H
 obtain ⟨⟨t33, t34, t35, t36, t37⟩,A38,H⟩:=Option.bind_eq_some_iff.mp H
 replace A38:=Aside0.mk A38;try dsimp only at H
 obtain ⟨⟨t42, t43, t44⟩,A45,H⟩:=Option.bind_eq_some_iff.mp H
 replace A45:=Aside0.mk A45;try dsimp only at H
 obtain ⟨⟨t65, t66, t67⟩,A68,H⟩:=Option.bind_eq_some_iff.mp H
 replace A68:=Aside0.mk A68;try dsimp only at H
 go_enter Try.func141, Try.ntmps141
 refine wp_hide (fun Qf hQf => ?_)
 refine wp_seq_k fun K1 hK1=>wp_region_lit ?_
 iterate 2 (refine wpp fun k h=>?_;go_simp;apply h;clear h k)
 refine step_new (cs := [.int .i64 0, .int .i64 0, .int .i64 0]) (T := 71) (f := fun b => .pointer (some ⟨b, 0, none⟩)) rfl (by go_simp <;> rfl) ?_
 intro b2 w3 hu lb hb2
 simp only[Act.put,nm1,nm2,nm3]
 have lbb2 := Aside0.mk lb
 have ltb2 := Aside0.mk hb2.lt
 clear lb
 have hu4 := Aside0.mk hu
 clear hu
 refine step_new (cs := [.int .i64 0, .int .i64 0, .int .i64 0]) (T := 71) (f := fun b => .pointer (some ⟨b, 0, none⟩)) rfl (by go_simp <;> rfl) ?_
 intro b5 w6 hu lb hb5
 simp only[Act.put,nm1,nm2,nm3]
 have lbb5 := Aside0.mk lb
 have ltb5 := Aside0.mk hb5.lt
 clear lb
 have hu7 := Aside0.mk hu
 clear hu
 refine wpList_nil (hK1 _ _ ?_)
 refine wp_seq_k fun K8 hK8=>wp_region_lit ?_
 refine wpp fun k h=>?_;go_simp;apply h;clear h k
 refine step_call wn (by go_simp <;> rfl) (spec_l01From.calls K a0_A a0_c a0 t10 t11 w6 (ha0.up (hu4.out.trans hu7.out)) A12.out) ?_
 rintro e w13 ⟨b9, rfl, hb9, lb, hu⟩
 have lbb9 := lb
 have ltb9 := Aside0.mk hb9.lt
 clear lb
 have hu14 := Aside0.mk hu
 clear hu
 refine ⟨_, rfl, ?_⟩
 simp only[Act.put,nm1,nm2,nm3]
 refine wpp fun k h=>?_;go_simp;apply h;clear h k
 refine wpList_nil (hK8 _ _ ?_)
 refine wp_seq_k fun K15 hK15=>wp_region_lit ?_
 refine wpp fun k h=>?_;go_simp;apply h;clear h k
 refine step_call wn (by go_simp <;> rfl) (spec_l01DrawField.calls K b9 a0_A a0_c a0 t10 t11 t16 t17 t18 w13 hb9 (ha0.up ((hu4.out.trans hu7.out).trans hu14.out)) (fun k hk hp => Nat.ne_of_lt (Nat.lt_of_lt_of_le ((ha0.up (hu4.out.trans hu7.out)).blk_lt hp k hk) lbb9.out)) A19.out) ?_
 rintro e w20 ⟨rfl, h21, hs⟩
 have hs22 := Aside0.mk hs
 clear hs
 refine ⟨_, rfl, ?_⟩
 simp only[Act.put,nm1,nm2,nm3]
 refine wpp fun k h=>?_;go_simp;apply h;clear h k
 refine wpList_nil (hK15 _ _ ?_)
 refine wp_seq_k fun K23 hK23=>wp_region_lit ?_
 iterate 2 (refine wpp fun k h=>?_;go_simp;apply h;clear h k)
 refine step_call wn (by go_simp <;> rfl) (spec_l06DrawOf.calls K b9 a0_A a0_c a0 t17 t18 t16 t24 t25 t26 t27 t28 w20 h21 (ha0.up (((hu4.out.trans hu7.out).trans hu14.out).grow hs22.out (fun k hk => Nat.le_trans ((Nat.le_trans (hu4.out.size) hu7.out.size)) ((fun k hk => Nat.le_trans lbb9.out (Nat.le_of_eq (Option.some.inj hk))) k hk)))) (fun k hk hp => Nat.ne_of_lt (Nat.lt_of_lt_of_le ((ha0.up (hu4.out.trans hu7.out)).blk_lt hp k hk) lbb9.out)) A29.out) ?_
 rintro e w30 ⟨rfl, h31, hs⟩
 have hs32 := Aside0.mk hs
 clear hs
 refine ⟨_, rfl, ?_⟩
 simp only[Act.put,nm1,nm2,nm3]
 iterate 2 (refine wpp fun k h=>?_;go_simp;apply h;clear h k)
 refine step_call wn (by go_simp <;> rfl) (spec_l06DrawOf.calls K b9 a0_A a0_c a0 t27 t28 t16 t33 t34 t35 t36 t37 w30 h31 (ha0.up ((((hu4.out.trans hu7.out).trans hu14.out).grow hs22.out (fun k hk => Nat.le_trans ((Nat.le_trans (hu4.out.size) hu7.out.size)) ((fun k hk => Nat.le_trans lbb9.out (Nat.le_of_eq (Option.some.inj hk))) k hk))).grow hs32.out (fun k hk => Nat.le_trans ((Nat.le_trans (hu4.out.size) hu7.out.size)) ((fun k hk => Nat.le_trans lbb9.out (Nat.le_of_eq (Option.some.inj hk))) k hk)))) (fun k hk hp => Nat.ne_of_lt (Nat.lt_of_lt_of_le ((ha0.up (hu4.out.trans hu7.out)).blk_lt hp k hk) lbb9.out)) A38.out) ?_
 rintro e w39 ⟨rfl, h40, hs⟩
 have hs41 := Aside0.mk hs
 clear hs
 refine ⟨_, rfl, ?_⟩
 simp only[Act.put,nm1,nm2,nm3]
 refine wpp fun k h=>?_;go_simp;apply h;clear h k
 refine step_call wn (by go_simp <;> rfl) (spec_l02DrawColour.calls K b9 a0_A a0_c a0 t36 t37 t42 t43 t44 w39 h40 (ha0.up (((((hu4.out.trans hu7.out).trans hu14.out).grow hs22.out (fun k hk => Nat.le_trans ((Nat.le_trans (hu4.out.size) hu7.out.size)) ((fun k hk => Nat.le_trans lbb9.out (Nat.le_of_eq (Option.some.inj hk))) k hk))).grow hs32.out (fun k hk => Nat.le_trans ((Nat.le_trans (hu4.out.size) hu7.out.size)) ((fun k hk => Nat.le_trans lbb9.out (Nat.le_of_eq (Option.some.inj hk))) k hk))).grow hs41.out (fun k hk => Nat.le_trans ((Nat.le_trans (hu4.out.size) hu7.out.size)) ((fun k hk => Nat.le_trans lbb9.out (Nat.le_of_eq (Option.some.inj hk))) k hk)))) (fun k hk hp => Nat.ne_of_lt (Nat.lt_of_lt_of_le ((ha0.up (hu4.out.trans hu7.out)).blk_lt hp k hk) lbb9.out)) A45.out) ?_
 rintro e w46 ⟨rfl, h47, hs⟩
 have hs48 := Aside0.mk hs
 clear hs
 refine ⟨_, rfl, ?_⟩
 simp only[Act.put,nm1,nm2,nm3]
 refine step_new (cs := [.int .i64 0, .int .i64 0, .int .i64 0]) (T := 71) (f := fun b => .pointer (some ⟨b, 0, none⟩)) rfl (by go_simp <;> rfl) ?_
 intro b49 w50 hu lb hb49
 simp only[Act.put,nm1,nm2,nm3]
 have lbb49 := Aside0.mk lb
 have ltb49 := Aside0.mk hb49.lt
 clear lb
 have hu51 := Aside0.mk hu
 clear hu
 refine step_new (cs := [.int .i64 0, .int .i64 0, .int .i64 0]) (T := 71) (f := fun b => .pointer (some ⟨b, 0, none⟩)) rfl (by go_simp <;> rfl) ?_
 intro b52 w53 hu lb hb52
 simp only[Act.put,nm1,nm2,nm3]
 have lbb52 := Aside0.mk lb
 have ltb52 := Aside0.mk hb52.lt
 clear lb
 have hu54 := Aside0.mk hu
 clear hu
 have hB0 := (hb49.up hu54.out)
 have cl0 := hB0.cell (o := 0) rfl
 have fr0 := hB0.free 0
 have cl1 := hB0.cell (o := 1) rfl
 have fr1 := hB0.free 1
 have cl2 := hB0.cell (o := 2) rfl
 have fr2 := hB0.free 2
 refine step_store (b := b49) (cs' := [.int .i64 t24, .int .i64 t25, .int .i64 t26]) (T := 71) (W' := (((w53.setCell ⟨b49, 0, none⟩ (.int .i64 t24)).setCell ⟨b49, 1, none⟩ (.int .i64 t25)).setCell ⟨b49, 2, none⟩ (.int .i64 t26))) rfl rfl (by go_simp <;> rfl) ((((Sto.refl _ _).setCell 0 _).setCell 1 _).setCell 2 _) ((((hB0).setCell 0 _).setCell 1 _).setCell 2 _) ?_
 clear hB0 cl0 fr0 cl1 fr1 cl2 fr2
 intro w55 hs hb57
 have hs56 := Aside0.mk hs
 clear hs
 have h58 := hb52.sto hs56.out (Ne.symm (Nat.ne_of_lt (Nat.lt_of_lt_of_le ltb49.out lbb52.out)))
 have hB0 := h58
 have cl0 := hB0.cell (o := 0) rfl
 have fr0 := hB0.free 0
 have cl1 := hB0.cell (o := 1) rfl
 have fr1 := hB0.free 1
 have cl2 := hB0.cell (o := 2) rfl
 have fr2 := hB0.free 2
 refine step_store (b := b52) (cs' := [.int .i64 t33, .int .i64 t34, .int .i64 t35]) (T := 71) (W' := (((w55.setCell ⟨b52, 0, none⟩ (.int .i64 t33)).setCell ⟨b52, 1, none⟩ (.int .i64 t34)).setCell ⟨b52, 2, none⟩ (.int .i64 t35))) rfl rfl (by go_simp <;> rfl) ((((Sto.refl _ _).setCell 0 _).setCell 1 _).setCell 2 _) ((((hB0).setCell 0 _).setCell 1 _).setCell 2 _) ?_
 clear hB0 cl0 fr0 cl1 fr1 cl2 fr2
 intro w59 hs hb61
 have hs60 := Aside0.mk hs
 clear hs
 have h62 := hb57.sto hs60.out (Nat.ne_of_lt (Nat.lt_of_lt_of_le ltb49.out lbb52.out))
 refine wpp fun k h=>?_;go_simp;apply h;clear h k
 refine wpList_nil (hK23 _ _ ?_)
 refine wp_seq_k fun K63 hK63=>?_
 refine wp_seq_k fun K64 hK64=>wp_region_lit ?_
 refine wpp fun k h=>?_;go_simp;apply h;clear h k
 refine step_call wn (by go_simp <;> rfl) (spec_l01Next.calls K b9 a0_A a0_c a0 t43 t44 8 t65 t66 t67 w59 (h47.up (((hu51.out.trans hu54.out).sto (Nat.le_trans (Nat.le_refl _) lbb49.out) hs56.out).sto (Nat.le_trans (hu51.out.size) lbb52.out) hs60.out)) (ha0.up ((((((((((hu4.out.trans hu7.out).trans hu14.out).grow hs22.out (fun k hk => Nat.le_trans ((Nat.le_trans (hu4.out.size) hu7.out.size)) ((fun k hk => Nat.le_trans lbb9.out (Nat.le_of_eq (Option.some.inj hk))) k hk))).grow hs32.out (fun k hk => Nat.le_trans ((Nat.le_trans (hu4.out.size) hu7.out.size)) ((fun k hk => Nat.le_trans lbb9.out (Nat.le_of_eq (Option.some.inj hk))) k hk))).grow hs41.out (fun k hk => Nat.le_trans ((Nat.le_trans (hu4.out.size) hu7.out.size)) ((fun k hk => Nat.le_trans lbb9.out (Nat.le_of_eq (Option.some.inj hk))) k hk))).grow hs48.out (fun k hk => Nat.le_trans ((Nat.le_trans (hu4.out.size) hu7.out.size)) ((fun k hk => Nat.le_trans lbb9.out (Nat.le_of_eq (Option.some.inj hk))) k hk))).trans hu51.out).trans hu54.out).sto (Nat.le_trans ((Nat.le_trans ((Nat.le_trans ((Nat.le_trans ((Nat.le_trans ((Nat.le_trans ((Nat.le_trans (hu4.out.size) hu7.out.size)) hu14.out.size)) hs22.out.size)) hs32.out.size)) hs41.out.size)) hs48.out.size)) lbb49.out) hs56.out).sto (Nat.le_trans ((Nat.le_trans ((Nat.le_trans ((Nat.le_trans ((Nat.le_trans ((Nat.le_trans ((Nat.le_trans ((Nat.le_trans (hu4.out.size) hu7.out.size)) hu14.out.size)) hs22.out.size)) hs32.out.size)) hs41.out.size)) hs48.out.size)) hu51.out.size)) lbb52.out) hs60.out)) (fun k hk hp => Nat.ne_of_lt (Nat.lt_of_lt_of_le ((ha0.up (hu4.out.trans hu7.out)).blk_lt hp k hk) lbb9.out)) A68.out) ?_
 rintro e w69 ⟨rfl, h70, hs⟩
 have hs71 := Aside0.mk hs
 clear hs
 have h72 := h62.grow hs71.out (fun k hk e => (Nat.ne_of_lt (Nat.lt_of_lt_of_le (Nat.lt_of_lt_of_le ltb9.out ((Nat.le_trans ((Nat.le_trans ((Nat.le_trans (hs22.out.size) hs32.out.size)) hs41.out.size)) hs48.out.size))) lbb49.out)) ((Option.some.inj hk).trans e))
 have h73 := hb61.grow hs71.out (fun k hk e => (Nat.ne_of_lt (Nat.lt_of_lt_of_le (Nat.lt_of_lt_of_le ltb9.out ((Nat.le_trans ((Nat.le_trans ((Nat.le_trans ((Nat.le_trans (hs22.out.size) hs32.out.size)) hs41.out.size)) hs48.out.size)) hu51.out.size))) lbb52.out)) ((Option.some.inj hk).trans e))
 refine ⟨_, rfl, ?_⟩
 simp only[Act.put,nm1,nm2,nm3]
 refine wpp fun k h=>?_;go_simp;apply h;clear h k
 refine wpList_nil (hK64 _ _ ?_)
 have hm75 := Aside0.mk (((((((((((hu4.out.trans hu7.out).trans hu14.out).grow hs22.out (fun k hk => Nat.le_trans ((Nat.le_trans (hu4.out.size) hu7.out.size)) ((fun k hk => Nat.le_trans lbb9.out (Nat.le_of_eq (Option.some.inj hk))) k hk))).grow hs32.out (fun k hk => Nat.le_trans ((Nat.le_trans (hu4.out.size) hu7.out.size)) ((fun k hk => Nat.le_trans lbb9.out (Nat.le_of_eq (Option.some.inj hk))) k hk))).grow hs41.out (fun k hk => Nat.le_trans ((Nat.le_trans (hu4.out.size) hu7.out.size)) ((fun k hk => Nat.le_trans lbb9.out (Nat.le_of_eq (Option.some.inj hk))) k hk))).grow hs48.out (fun k hk => Nat.le_trans ((Nat.le_trans (hu4.out.size) hu7.out.size)) ((fun k hk => Nat.le_trans lbb9.out (Nat.le_of_eq (Option.some.inj hk))) k hk))).trans hu51.out).trans hu54.out).sto (Nat.le_trans ((Nat.le_trans ((Nat.le_trans ((Nat.le_trans ((Nat.le_trans ((Nat.le_trans ((Nat.le_trans (hu4.out.size) hu7.out.size)) hu14.out.size)) hs22.out.size)) hs32.out.size)) hs41.out.size)) hs48.out.size)) lbb49.out) hs56.out).sto (Nat.le_trans ((Nat.le_trans ((Nat.le_trans ((Nat.le_trans ((Nat.le_trans ((Nat.le_trans ((Nat.le_trans ((Nat.le_trans (hu4.out.size) hu7.out.size)) hu14.out.size)) hs22.out.size)) hs32.out.size)) hs41.out.size)) hs48.out.size)) hu51.out.size)) lbb52.out) hs60.out).grow hs71.out (fun k hk => Nat.le_trans ((Nat.le_trans (hu4.out.size) hu7.out.size)) ((fun k hk => Nat.le_trans lbb9.out (Nat.le_of_eq (Option.some.inj hk))) k hk)))
 have h76 := (hb2.up ((((((((((hu7.out.trans hu14.out).grow hs22.out (fun k hk => Nat.le_trans (hu7.out.size) ((fun k hk => Nat.le_trans lbb9.out (Nat.le_of_eq (Option.some.inj hk))) k hk))).grow hs32.out (fun k hk => Nat.le_trans (hu7.out.size) ((fun k hk => Nat.le_trans lbb9.out (Nat.le_of_eq (Option.some.inj hk))) k hk))).grow hs41.out (fun k hk => Nat.le_trans (hu7.out.size) ((fun k hk => Nat.le_trans lbb9.out (Nat.le_of_eq (Option.some.inj hk))) k hk))).grow hs48.out (fun k hk => Nat.le_trans (hu7.out.size) ((fun k hk => Nat.le_trans lbb9.out (Nat.le_of_eq (Option.some.inj hk))) k hk))).trans hu51.out).trans hu54.out).sto (Nat.le_trans ((Nat.le_trans ((Nat.le_trans ((Nat.le_trans ((Nat.le_trans ((Nat.le_trans (hu7.out.size) hu14.out.size)) hs22.out.size)) hs32.out.size)) hs41.out.size)) hs48.out.size)) lbb49.out) hs56.out).sto (Nat.le_trans ((Nat.le_trans ((Nat.le_trans ((Nat.le_trans ((Nat.le_trans ((Nat.le_trans ((Nat.le_trans (hu7.out.size) hu14.out.size)) hs22.out.size)) hs32.out.size)) hs41.out.size)) hs48.out.size)) hu51.out.size)) lbb52.out) hs60.out).grow hs71.out (fun k hk => Nat.le_trans (hu7.out.size) ((fun k hk => Nat.le_trans lbb9.out (Nat.le_of_eq (Option.some.inj hk))) k hk))))
 have h77 := (hb5.up (((((((((hu14.out.grow hs22.out (fun k hk => Nat.le_trans (Nat.le_refl _) ((fun k hk => Nat.le_trans lbb9.out (Nat.le_of_eq (Option.some.inj hk))) k hk))).grow hs32.out (fun k hk => Nat.le_trans (Nat.le_refl _) ((fun k hk => Nat.le_trans lbb9.out (Nat.le_of_eq (Option.some.inj hk))) k hk))).grow hs41.out (fun k hk => Nat.le_trans (Nat.le_refl _) ((fun k hk => Nat.le_trans lbb9.out (Nat.le_of_eq (Option.some.inj hk))) k hk))).grow hs48.out (fun k hk => Nat.le_trans (Nat.le_refl _) ((fun k hk => Nat.le_trans lbb9.out (Nat.le_of_eq (Option.some.inj hk))) k hk))).trans hu51.out).trans hu54.out).sto (Nat.le_trans ((Nat.le_trans ((Nat.le_trans ((Nat.le_trans ((Nat.le_trans (hu14.out.size) hs22.out.size)) hs32.out.size)) hs41.out.size)) hs48.out.size)) lbb49.out) hs56.out).sto (Nat.le_trans ((Nat.le_trans ((Nat.le_trans ((Nat.le_trans ((Nat.le_trans ((Nat.le_trans (hu14.out.size) hs22.out.size)) hs32.out.size)) hs41.out.size)) hs48.out.size)) hu51.out.size)) lbb52.out) hs60.out).grow hs71.out (fun k hk => Nat.le_trans (Nat.le_refl _) ((fun k hk => Nat.le_trans lbb9.out (Nat.le_of_eq (Option.some.inj hk))) k hk))))
 by_cases c74 : (t65 == 0) = true
 rotate_left
 ·
  rw [if_neg c74] at H; replace c74 := Bool.eq_false_iff.mpr c74
  have c74n : (t65 != 0) = true := by rw [bne, c74]; rfl
  have c74p : ¬ t65 = 0 := fun e => by simp [e] at c74
  obtain ⟨⟨t146, t147, t148⟩,A149,H⟩:=Option.bind_eq_some_iff.mp H
  replace A149:=Aside0.mk A149;try dsimp only at H
  obtain ⟨⟨t157, t158, t159, t160, t161⟩,A162,H⟩:=Option.bind_eq_some_iff.mp H
  replace A162:=Aside0.mk A162;try dsimp only at H
  obtain ⟨⟨t170, t171, t172, t173, t174⟩,A175,H⟩:=Option.bind_eq_some_iff.mp H
  replace A175:=Aside0.mk A175;try dsimp only at H
  simp only [Option.some.injEq, Prod.mk.injEq] at H
  obtain ⟨rfl, rfl, rfl, rfl, rfl, rfl, rfl, rfl⟩ := H
  try simp only [c74, c74n, Bool.not_true, Bool.not_false]
  refine wp_cond_false rfl ?_
  refine wp_skip ?_
  refine hK63 _ _ ?_
  refine wp_seq_k fun K141 hK141=>?_
  have hTT_ : ∀ w_, Up (World.drew w69) w_ → (fun w_ => Blk w_ b49 [.int .i64 t24, .int .i64 t25, .int .i64 t26] 71 ∧ Blk w_ b52 [.int .i64 t33, .int .i64 t34, .int .i64 t35] 71 ∧ True) w_ := fun w_ hu_ => ⟨h72.up ((Up.refl _).drew.trans hu_), h73.up ((Up.refl _).drew.trans hu_), True.intro⟩
  refine' wp_region_mix (fun w_ => Blk w_ b49 [.int .i64 t24, .int .i64 t25, .int .i64 t26] 71 ∧ Blk w_ b52 [.int .i64 t33, .int .i64 t34, .int .i64 t35] 71 ∧ True) [0, 1, 3, 4, 5, 6, 8, 9, 10] [2, 7, 11, 12, 13, 14, 15] [Slot.pur _, Slot.pur _, Slot.pur _, Slot.pur _, Slot.pur _, Slot.pur _, Slot.pur _, Slot.pur _, Slot.pur _] (by kernel_rfl) (by kernel_rfl) rfl rfl hTT_ ?main
  case main =>
   simp only [pick, List.drop_succ_cons, List.drop_zero]
   refine wpK_pur rfl hTT_ (fun w1 hT => ?_) ?_
   · clear hT
     go_simp
     first | done | rfl
   simp only[Act.put,nm1,nm2,nm3]
   refine wpK_pur rfl hTT_ (fun w1 hT => ?_) ?_
   · clear hT
     go_simp
     first | done | rfl
   simp only[Act.put,nm1,nm2,nm3]
   refine wpK_pur rfl hTT_ (fun w1 hT => ?_) ?_
   · clear hT
     go_simp
     first | done | rfl
   simp only[Act.put,nm1,nm2,nm3]
   refine wpK_pur rfl hTT_ (fun w1 hT => ?_) ?_
   · clear hT
     go_simp
     first | done | rfl
   simp only[Act.put,nm1,nm2,nm3]
   refine wpK_pur rfl hTT_ (fun w1 hT => ?_) ?_
   · clear hT
     go_simp
     first | done | rfl
   simp only[Act.put,nm1,nm2,nm3]
   refine wpK_pur rfl hTT_ (fun w1 hT => ?_) ?_
   · have hB_ := hT.1
     have cl0 := hB_.cell (o := 0) rfl
     have cl1 := hB_.cell (o := 1) rfl
     have cl2 := hB_.cell (o := 2) rfl
     clear hT
     go_simp
     first | done | rfl
   simp only[Act.put,nm1,nm2,nm3]
   refine wpK_pur rfl hTT_ (fun w1 hT => ?_) ?_
   · clear hT
     go_simp
     first | done | rfl
   simp only[Act.put,nm1,nm2,nm3]
   refine wpK_pur rfl hTT_ (fun w1 hT => ?_) ?_
   · clear hT
     go_simp
     first | done | rfl
   simp only[Act.put,nm1,nm2,nm3]
   refine wpK_pur rfl hTT_ (fun w1 hT => ?_) ?_
   · have hB_ := hT.2.1
     have cl0 := hB_.cell (o := 0) rfl
     have cl1 := hB_.cell (o := 1) rfl
     have cl2 := hB_.cell (o := 2) rfl
     clear hT
     go_simp
     first | done | rfl
   simp only[Act.put,nm1,nm2,nm3]
   refine wpK_nil ?_
   intro w144 hu
   replace hu := (Up.refl _).drew.trans hu
   have hu145 := Aside0.mk hu
   clear hu
   refine late_consT ⟨(h72.up hu145.out), (h73.up hu145.out), True.intro⟩ ?_
   refine step_call wn (by go_simp <;> rfl) (spec_l01BadField.calls K b9 a0_A a0_c a0 t66 t67 t16 t146 t147 t148 w144 (h70.up hu145.out) (ha0.up (hm75.out.trans hu145.out)) (fun k hk hp => Nat.ne_of_lt (Nat.lt_of_lt_of_le ((ha0.up (hu4.out.trans hu7.out)).blk_lt hp k hk) lbb9.out)) A149.out) ?_
   rintro e w150 ⟨rfl, h151, hs⟩
   have hs152 := Aside0.mk hs
   clear hs
   have h153 := (h76.up hu145.out).grow hs152.out (fun k hk e => (Ne.symm (Nat.ne_of_lt (Nat.lt_of_lt_of_le (Nat.lt_of_lt_of_le ltb2.out (hu7.out.size)) lbb9.out))) ((Option.some.inj hk).trans e))
   have h154 := (h77.up hu145.out).grow hs152.out (fun k hk e => (Ne.symm (Nat.ne_of_lt (Nat.lt_of_lt_of_le ltb5.out lbb9.out))) ((Option.some.inj hk).trans e))
   have h155 := (h72.up hu145.out).grow hs152.out (fun k hk e => (Nat.ne_of_lt (Nat.lt_of_lt_of_le (Nat.lt_of_lt_of_le ltb9.out ((Nat.le_trans ((Nat.le_trans ((Nat.le_trans (hs22.out.size) hs32.out.size)) hs41.out.size)) hs48.out.size))) lbb49.out)) ((Option.some.inj hk).trans e))
   have h156 := (h73.up hu145.out).grow hs152.out (fun k hk e => (Nat.ne_of_lt (Nat.lt_of_lt_of_le (Nat.lt_of_lt_of_le ltb9.out ((Nat.le_trans ((Nat.le_trans ((Nat.le_trans ((Nat.le_trans (hs22.out.size) hs32.out.size)) hs41.out.size)) hs48.out.size)) hu51.out.size))) lbb52.out)) ((Option.some.inj hk).trans e))
   refine ⟨_, rfl, ?_⟩
   simp only[Act.put,nm1,nm2,nm3]
   refine wpList_nil ?_
   refine wrapQ_k ?_
   refine late_consT ⟨h155, h156, True.intro⟩ ?_
   refine step_call wn (by go_simp <;> rfl) (spec_l06Bad.calls K b9 a0_A a0_c a0 t147 t148 t16 t24 t25 t26 t157 t158 t159 t160 t161 w150 h151 (ha0.up ((hm75.out.trans hu145.out).grow hs152.out (fun k hk => Nat.le_trans ((Nat.le_trans (hu4.out.size) hu7.out.size)) ((fun k hk => Nat.le_trans lbb9.out (Nat.le_of_eq (Option.some.inj hk))) k hk)))) (fun k hk hp => Nat.ne_of_lt (Nat.lt_of_lt_of_le ((ha0.up (hu4.out.trans hu7.out)).blk_lt hp k hk) lbb9.out)) A162.out) ?_
   rintro e w163 ⟨rfl, h164, hs⟩
   have hs165 := Aside0.mk hs
   clear hs
   have h166 := h153.grow hs165.out (fun k hk e => (Ne.symm (Nat.ne_of_lt (Nat.lt_of_lt_of_le (Nat.lt_of_lt_of_le ltb2.out (hu7.out.size)) lbb9.out))) ((Option.some.inj hk).trans e))
   have h167 := h154.grow hs165.out (fun k hk e => (Ne.symm (Nat.ne_of_lt (Nat.lt_of_lt_of_le ltb5.out lbb9.out))) ((Option.some.inj hk).trans e))
   have h168 := h155.grow hs165.out (fun k hk e => (Nat.ne_of_lt (Nat.lt_of_lt_of_le (Nat.lt_of_lt_of_le ltb9.out ((Nat.le_trans ((Nat.le_trans ((Nat.le_trans (hs22.out.size) hs32.out.size)) hs41.out.size)) hs48.out.size))) lbb49.out)) ((Option.some.inj hk).trans e))
   have h169 := h156.grow hs165.out (fun k hk e => (Nat.ne_of_lt (Nat.lt_of_lt_of_le (Nat.lt_of_lt_of_le ltb9.out ((Nat.le_trans ((Nat.le_trans ((Nat.le_trans ((Nat.le_trans (hs22.out.size) hs32.out.size)) hs41.out.size)) hs48.out.size)) hu51.out.size))) lbb52.out)) ((Option.some.inj hk).trans e))
   refine ⟨_, rfl, ?_⟩
   simp only[Act.put,nm1,nm2,nm3]
   refine wpList_nil ?_
   refine wrapQ_k ?_
   refine late_consT ⟨h168, h169, True.intro⟩ ?_
   refine step_call wn (by go_simp <;> rfl) (spec_l06Bad.calls K b9 a0_A a0_c a0 t160 t161 t16 t33 t34 t35 t170 t171 t172 t173 t174 w163 h164 (ha0.up (((hm75.out.trans hu145.out).grow hs152.out (fun k hk => Nat.le_trans ((Nat.le_trans (hu4.out.size) hu7.out.size)) ((fun k hk => Nat.le_trans lbb9.out (Nat.le_of_eq (Option.some.inj hk))) k hk))).grow hs165.out (fun k hk => Nat.le_trans ((Nat.le_trans (hu4.out.size) hu7.out.size)) ((fun k hk => Nat.le_trans lbb9.out (Nat.le_of_eq (Option.some.inj hk))) k hk)))) (fun k hk hp => Nat.ne_of_lt (Nat.lt_of_lt_of_le ((ha0.up (hu4.out.trans hu7.out)).blk_lt hp k hk) lbb9.out)) A175.out) ?_
   rintro e w176 ⟨rfl, h177, hs⟩
   have hs178 := Aside0.mk hs
   clear hs
   have h179 := h166.grow hs178.out (fun k hk e => (Ne.symm (Nat.ne_of_lt (Nat.lt_of_lt_of_le (Nat.lt_of_lt_of_le ltb2.out (hu7.out.size)) lbb9.out))) ((Option.some.inj hk).trans e))
   have h180 := h167.grow hs178.out (fun k hk e => (Ne.symm (Nat.ne_of_lt (Nat.lt_of_lt_of_le ltb5.out lbb9.out))) ((Option.some.inj hk).trans e))
   have h181 := h168.grow hs178.out (fun k hk e => (Nat.ne_of_lt (Nat.lt_of_lt_of_le (Nat.lt_of_lt_of_le ltb9.out ((Nat.le_trans ((Nat.le_trans ((Nat.le_trans (hs22.out.size) hs32.out.size)) hs41.out.size)) hs48.out.size))) lbb49.out)) ((Option.some.inj hk).trans e))
   have h182 := h169.grow hs178.out (fun k hk e => (Nat.ne_of_lt (Nat.lt_of_lt_of_le (Nat.lt_of_lt_of_le ltb9.out ((Nat.le_trans ((Nat.le_trans ((Nat.le_trans ((Nat.le_trans (hs22.out.size) hs32.out.size)) hs41.out.size)) hs48.out.size)) hu51.out.size))) lbb52.out)) ((Option.some.inj hk).trans e))
   refine ⟨_, rfl, ?_⟩
   simp only[Act.put,nm1,nm2,nm3]
   refine wpList_nil ?_
   refine wrapQ_k ?_
   refine late_consT ⟨h181, h182, True.intro⟩ ?_
   refine wpp fun k h=>?_;go_simp;apply h;clear h k
   refine wpList_nil ?_
   refine wrapQ_k ?_
   refine late_consT ⟨h181, h182, True.intro⟩ ?_
   refine wpp fun k h=>?_;go_simp;apply h;clear h k
   refine wpList_nil ?_
   refine wrapQ_k ?_
   refine late_consT ⟨h181, h182, True.intro⟩ ?_
   have hB0 := h179
   have cl0 := hB0.cell (o := 0) rfl
   have fr0 := hB0.free 0
   have cl1 := hB0.cell (o := 1) rfl
   have fr1 := hB0.free 1
   have cl2 := hB0.cell (o := 2) rfl
   have fr2 := hB0.free 2
   refine step_store (b := b2) (cs' := [.int .i64 t157, .int .i64 t158, .int .i64 t159]) (T := 71) (W' := (((w176.setCell ⟨b2, 0, none⟩ (.int .i64 t157)).setCell ⟨b2, 1, none⟩ (.int .i64 t158)).setCell ⟨b2, 2, none⟩ (.int .i64 t159))) rfl rfl (by go_simp <;> rfl) ((((Sto.refl _ _).setCell 0 _).setCell 1 _).setCell 2 _) ((((hB0).setCell 0 _).setCell 1 _).setCell 2 _) ?_
   clear hB0 cl0 fr0 cl1 fr1 cl2 fr2
   intro w183 hs hb185
   have hs184 := Aside0.mk hs
   clear hs
   have h186 := h180.sto hs184.out (Ne.symm (Nat.ne_of_lt (Nat.lt_of_lt_of_le ltb2.out lbb5.out)))
   have h187 := h177.sto hs184.out (Ne.symm (Nat.ne_of_lt (Nat.lt_of_lt_of_le (Nat.lt_of_lt_of_le ltb2.out (hu7.out.size)) lbb9.out)))
   have h188 := h181.sto hs184.out (Ne.symm (Nat.ne_of_lt (Nat.lt_of_lt_of_le (Nat.lt_of_lt_of_le ltb2.out ((Nat.le_trans ((Nat.le_trans ((Nat.le_trans ((Nat.le_trans ((Nat.le_trans (hu7.out.size) hu14.out.size)) hs22.out.size)) hs32.out.size)) hs41.out.size)) hs48.out.size))) lbb49.out)))
   have h189 := h182.sto hs184.out (Ne.symm (Nat.ne_of_lt (Nat.lt_of_lt_of_le (Nat.lt_of_lt_of_le ltb2.out ((Nat.le_trans ((Nat.le_trans ((Nat.le_trans ((Nat.le_trans ((Nat.le_trans ((Nat.le_trans (hu7.out.size) hu14.out.size)) hs22.out.size)) hs32.out.size)) hs41.out.size)) hs48.out.size)) hu51.out.size))) lbb52.out)))
   refine wpList_nil ?_
   refine wrapQ_k ?_
   refine late_consT ⟨h188, h189, True.intro⟩ ?_
   have hB0 := h186
   have cl0 := hB0.cell (o := 0) rfl
   have fr0 := hB0.free 0
   have cl1 := hB0.cell (o := 1) rfl
   have fr1 := hB0.free 1
   have cl2 := hB0.cell (o := 2) rfl
   have fr2 := hB0.free 2
   refine step_store (b := b5) (cs' := [.int .i64 t170, .int .i64 t171, .int .i64 t172]) (T := 71) (W' := (((w183.setCell ⟨b5, 0, none⟩ (.int .i64 t170)).setCell ⟨b5, 1, none⟩ (.int .i64 t171)).setCell ⟨b5, 2, none⟩ (.int .i64 t172))) rfl rfl (by go_simp <;> rfl) ((((Sto.refl _ _).setCell 0 _).setCell 1 _).setCell 2 _) ((((hB0).setCell 0 _).setCell 1 _).setCell 2 _) ?_
   clear hB0 cl0 fr0 cl1 fr1 cl2 fr2
   intro w190 hs hb192
   have hs191 := Aside0.mk hs
   clear hs
   have h193 := hb185.sto hs191.out (Nat.ne_of_lt (Nat.lt_of_lt_of_le ltb2.out lbb5.out))
   have h194 := h187.sto hs191.out (Ne.symm (Nat.ne_of_lt (Nat.lt_of_lt_of_le ltb5.out lbb9.out)))
   have h195 := h188.sto hs191.out (Ne.symm (Nat.ne_of_lt (Nat.lt_of_lt_of_le (Nat.lt_of_lt_of_le ltb5.out ((Nat.le_trans ((Nat.le_trans ((Nat.le_trans ((Nat.le_trans (hu14.out.size) hs22.out.size)) hs32.out.size)) hs41.out.size)) hs48.out.size))) lbb49.out)))
   have h196 := h189.sto hs191.out (Ne.symm (Nat.ne_of_lt (Nat.lt_of_lt_of_le (Nat.lt_of_lt_of_le ltb5.out ((Nat.le_trans ((Nat.le_trans ((Nat.le_trans ((Nat.le_trans ((Nat.le_trans (hu14.out.size) hs22.out.size)) hs32.out.size)) hs41.out.size)) hs48.out.size)) hu51.out.size))) lbb52.out)))
   refine wpList_nil ?_
   refine wrapQ_k ?_
   refine late_nilT ⟨h195, h196, True.intro⟩ ?_
   refine hK141 _ _ ?_
   refine wp_ret ?_
   refine hQf _ _ _ ?_
   have cr0 := h193.cell (o := 0) rfl
   have cr1 := h193.cell (o := 1) rfl
   have cr2 := h193.cell (o := 2) rfl
   have cr3 := hb192.cell (o := 0) rfl
   have cr4 := hb192.cell (o := 1) rfl
   have cr5 := hb192.cell (o := 2) rfl
   exact bodyPost_ret (v := .tuple #[.int .i64 t146, .int .i64 t42, .agg #[.int .i64 t157, .int .i64 t158, .int .i64 t159], .agg #[.int .i64 t170, .int .i64 t171, .int .i64 t172]]) (by first|rfl|simp [results, Try.results141, go_sem, cr0, cr1, cr2, cr3, cr4, cr5]<;>rfl) rfl ⟨rfl, ((((((hm75.out.trans hu145.out).grow hs152.out (fun k hk => Nat.le_trans ((Nat.le_trans (hu4.out.size) hu7.out.size)) ((fun k hk => Nat.le_trans lbb9.out (Nat.le_of_eq (Option.some.inj hk))) k hk))).grow hs165.out (fun k hk => Nat.le_trans ((Nat.le_trans (hu4.out.size) hu7.out.size)) ((fun k hk => Nat.le_trans lbb9.out (Nat.le_of_eq (Option.some.inj hk))) k hk))).grow hs178.out (fun k hk => Nat.le_trans ((Nat.le_trans (hu4.out.size) hu7.out.size)) ((fun k hk => Nat.le_trans lbb9.out (Nat.le_of_eq (Option.some.inj hk))) k hk))).sto (Nat.le_trans (Nat.le_refl _) lbb2.out) hs184.out).sto (Nat.le_trans (hu4.out.size) lbb5.out) hs191.out)⟩
 rw [if_pos c74] at H
 have c74n : (t65 != 0) = false := by rw [bne, c74]; rfl
 obtain ⟨⟨t90, t91, t92⟩,A93,H⟩:=Option.bind_eq_some_iff.mp H
 replace A93:=Aside0.mk A93;try dsimp only at H
 obtain ⟨⟨t101, t102, t103, t104, t105⟩,A106,H⟩:=Option.bind_eq_some_iff.mp H
 replace A106:=Aside0.mk A106;try dsimp only at H
 obtain ⟨⟨t114, t115, t116, t117, t118⟩,A119,H⟩:=Option.bind_eq_some_iff.mp H
 replace A119:=Aside0.mk A119;try dsimp only at H
 simp only [Option.some.injEq, Prod.mk.injEq] at H
 obtain ⟨rfl, rfl, rfl, rfl, rfl, rfl, rfl, rfl⟩ := H
 try simp only [c74, c74n, Bool.not_true, Bool.not_false]
 refine wp_cond_true rfl ?_
 refine wp_region_lit ?_
 refine wpp fun k h=>?_;go_simp;apply h;clear h k
 have cl0 := h72.cell (o := 0) rfl
 have cl1 := h72.cell (o := 1) rfl
 refine wpp fun k h=>?_;go_simp;apply h;clear h k
 clear cl0 cl1
 refine wpp fun k h=>?_;go_simp;apply h;clear h k
 have hB0 := h73
 have cl0 := hB0.cell (o := 0) rfl
 have fr0 := hB0.free 0
 have cl1 := hB0.cell (o := 1) rfl
 have fr1 := hB0.free 1
 refine step_store (b := b52) (cs' := [.int .i64 t24, .int .i64 t25, .int .i64 t35]) (T := 71) (W' := ((w69.setCell ⟨b52, 0, none⟩ (.int .i64 t24)).setCell ⟨b52, 1, none⟩ (.int .i64 t25))) rfl rfl (by go_simp <;> rfl) (((Sto.refl _ _).setCell 0 _).setCell 1 _) (((hB0).setCell 0 _).setCell 1 _) ?_
 clear hB0 cl0 fr0 cl1 fr1
 intro w78 hs hb80
 have hs79 := Aside0.mk hs
 clear hs
 have h81 := h76.sto hs79.out (Nat.ne_of_lt (Nat.lt_of_lt_of_le (Nat.lt_of_lt_of_le ltb2.out ((Nat.le_trans ((Nat.le_trans ((Nat.le_trans ((Nat.le_trans ((Nat.le_trans ((Nat.le_trans (hu7.out.size) hu14.out.size)) hs22.out.size)) hs32.out.size)) hs41.out.size)) hs48.out.size)) hu51.out.size))) lbb52.out))
 have h82 := h77.sto hs79.out (Nat.ne_of_lt (Nat.lt_of_lt_of_le (Nat.lt_of_lt_of_le ltb5.out ((Nat.le_trans ((Nat.le_trans ((Nat.le_trans ((Nat.le_trans ((Nat.le_trans (hu14.out.size) hs22.out.size)) hs32.out.size)) hs41.out.size)) hs48.out.size)) hu51.out.size))) lbb52.out))
 have h83 := h70.sto hs79.out (Nat.ne_of_lt (Nat.lt_of_lt_of_le (Nat.lt_of_lt_of_le ltb9.out ((Nat.le_trans ((Nat.le_trans ((Nat.le_trans ((Nat.le_trans (hs22.out.size) hs32.out.size)) hs41.out.size)) hs48.out.size)) hu51.out.size))) lbb52.out))
 have h84 := h72.sto hs79.out (Nat.ne_of_lt (Nat.lt_of_lt_of_le ltb49.out lbb52.out))
 refine wpList_nil (hK63 _ _ ?_)
 refine wp_seq_k fun K85 hK85=>?_
 have hTT_ : ∀ w_, Up (World.drew w78) w_ → (fun w_ => Blk w_ b49 [.int .i64 t24, .int .i64 t25, .int .i64 t26] 71 ∧ Blk w_ b52 [.int .i64 t24, .int .i64 t25, .int .i64 t35] 71 ∧ True) w_ := fun w_ hu_ => ⟨h84.up ((Up.refl _).drew.trans hu_), hb80.up ((Up.refl _).drew.trans hu_), True.intro⟩
 refine' wp_region_mix (fun w_ => Blk w_ b49 [.int .i64 t24, .int .i64 t25, .int .i64 t26] 71 ∧ Blk w_ b52 [.int .i64 t24, .int .i64 t25, .int .i64 t35] 71 ∧ True) [0, 1, 3, 4, 5, 6, 8, 9, 10] [2, 7, 11, 12, 13, 14, 15] [Slot.pur _, Slot.pur _, Slot.pur _, Slot.pur _, Slot.pur _, Slot.pur _, Slot.pur _, Slot.pur _, Slot.pur _] (by kernel_rfl) (by kernel_rfl) rfl rfl hTT_ ?main
 case main =>
  simp only [pick, List.drop_succ_cons, List.drop_zero]
  refine wpK_pur rfl hTT_ (fun w1 hT => ?_) ?_
  · clear hT
    go_simp
    first | done | rfl
  simp only[Act.put,nm1,nm2,nm3]
  refine wpK_pur rfl hTT_ (fun w1 hT => ?_) ?_
  · clear hT
    go_simp
    first | done | rfl
  simp only[Act.put,nm1,nm2,nm3]
  refine wpK_pur rfl hTT_ (fun w1 hT => ?_) ?_
  · clear hT
    go_simp
    first | done | rfl
  simp only[Act.put,nm1,nm2,nm3]
  refine wpK_pur rfl hTT_ (fun w1 hT => ?_) ?_
  · clear hT
    go_simp
    first | done | rfl
  simp only[Act.put,nm1,nm2,nm3]
  refine wpK_pur rfl hTT_ (fun w1 hT => ?_) ?_
  · clear hT
    go_simp
    first | done | rfl
  simp only[Act.put,nm1,nm2,nm3]
  refine wpK_pur rfl hTT_ (fun w1 hT => ?_) ?_
  · have hB_ := hT.1
    have cl0 := hB_.cell (o := 0) rfl
    have cl1 := hB_.cell (o := 1) rfl
    have cl2 := hB_.cell (o := 2) rfl
    clear hT
    go_simp
    first | done | rfl
  simp only[Act.put,nm1,nm2,nm3]
  refine wpK_pur rfl hTT_ (fun w1 hT => ?_) ?_
  · clear hT
    go_simp
    first | done | rfl
  simp only[Act.put,nm1,nm2,nm3]
  refine wpK_pur rfl hTT_ (fun w1 hT => ?_) ?_
  · clear hT
    go_simp
    first | done | rfl
  simp only[Act.put,nm1,nm2,nm3]
  refine wpK_pur rfl hTT_ (fun w1 hT => ?_) ?_
  · have hB_ := hT.2.1
    have cl0 := hB_.cell (o := 0) rfl
    have cl1 := hB_.cell (o := 1) rfl
    have cl2 := hB_.cell (o := 2) rfl
    clear hT
    go_simp
    first | done | rfl
  simp only[Act.put,nm1,nm2,nm3]
  refine wpK_nil ?_
  intro w88 hu
  replace hu := (Up.refl _).drew.trans hu
  have hu89 := Aside0.mk hu
  clear hu
  refine late_consT ⟨(h84.up hu89.out), (hb80.up hu89.out), True.intro⟩ ?_
  refine step_call wn (by go_simp <;> rfl) (spec_l01BadField.calls K b9 a0_A a0_c a0 t66 t67 t16 t90 t91 t92 w88 (h83.up hu89.out) (ha0.up ((hm75.out.sto (Nat.le_trans ((Nat.le_trans ((Nat.le_trans ((Nat.le_trans ((Nat.le_trans ((Nat.le_trans ((Nat.le_trans ((Nat.le_trans (hu4.out.size) hu7.out.size)) hu14.out.size)) hs22.out.size)) hs32.out.size)) hs41.out.size)) hs48.out.size)) hu51.out.size)) lbb52.out) hs79.out).trans hu89.out)) (fun k hk hp => Nat.ne_of_lt (Nat.lt_of_lt_of_le ((ha0.up (hu4.out.trans hu7.out)).blk_lt hp k hk) lbb9.out)) A93.out) ?_
  rintro e w94 ⟨rfl, h95, hs⟩
  have hs96 := Aside0.mk hs
  clear hs
  have h97 := (h81.up hu89.out).grow hs96.out (fun k hk e => (Ne.symm (Nat.ne_of_lt (Nat.lt_of_lt_of_le (Nat.lt_of_lt_of_le ltb2.out (hu7.out.size)) lbb9.out))) ((Option.some.inj hk).trans e))
  have h98 := (h82.up hu89.out).grow hs96.out (fun k hk e => (Ne.symm (Nat.ne_of_lt (Nat.lt_of_lt_of_le ltb5.out lbb9.out))) ((Option.some.inj hk).trans e))
  have h99 := (h84.up hu89.out).grow hs96.out (fun k hk e => (Nat.ne_of_lt (Nat.lt_of_lt_of_le (Nat.lt_of_lt_of_le ltb9.out ((Nat.le_trans ((Nat.le_trans ((Nat.le_trans (hs22.out.size) hs32.out.size)) hs41.out.size)) hs48.out.size))) lbb49.out)) ((Option.some.inj hk).trans e))
  have h100 := (hb80.up hu89.out).grow hs96.out (fun k hk e => (Nat.ne_of_lt (Nat.lt_of_lt_of_le (Nat.lt_of_lt_of_le ltb9.out ((Nat.le_trans ((Nat.le_trans ((Nat.le_trans ((Nat.le_trans (hs22.out.size) hs32.out.size)) hs41.out.size)) hs48.out.size)) hu51.out.size))) lbb52.out)) ((Option.some.inj hk).trans e))
  refine ⟨_, rfl, ?_⟩
  simp only[Act.put,nm1,nm2,nm3]
  refine wpList_nil ?_
  refine wrapQ_k ?_
  refine late_consT ⟨h99, h100, True.intro⟩ ?_
  refine step_call wn (by go_simp <;> rfl) (spec_l06Bad.calls K b9 a0_A a0_c a0 t91 t92 t16 t24 t25 t26 t101 t102 t103 t104 t105 w94 h95 (ha0.up (((hm75.out.sto (Nat.le_trans ((Nat.le_trans ((Nat.le_trans ((Nat.le_trans ((Nat.le_trans ((Nat.le_trans ((Nat.le_trans ((Nat.le_trans (hu4.out.size) hu7.out.size)) hu14.out.size)) hs22.out.size)) hs32.out.size)) hs41.out.size)) hs48.out.size)) hu51.out.size)) lbb52.out) hs79.out).trans hu89.out).grow hs96.out (fun k hk => Nat.le_trans ((Nat.le_trans (hu4.out.size) hu7.out.size)) ((fun k hk => Nat.le_trans lbb9.out (Nat.le_of_eq (Option.some.inj hk))) k hk)))) (fun k hk hp => Nat.ne_of_lt (Nat.lt_of_lt_of_le ((ha0.up (hu4.out.trans hu7.out)).blk_lt hp k hk) lbb9.out)) A106.out) ?_
  rintro e w107 ⟨rfl, h108, hs⟩
  have hs109 := Aside0.mk hs
  clear hs
  have h110 := h97.grow hs109.out (fun k hk e => (Ne.symm (Nat.ne_of_lt (Nat.lt_of_lt_of_le (Nat.lt_of_lt_of_le ltb2.out (hu7.out.size)) lbb9.out))) ((Option.some.inj hk).trans e))
  have h111 := h98.grow hs109.out (fun k hk e => (Ne.symm (Nat.ne_of_lt (Nat.lt_of_lt_of_le ltb5.out lbb9.out))) ((Option.some.inj hk).trans e))
  have h112 := h99.grow hs109.out (fun k hk e => (Nat.ne_of_lt (Nat.lt_of_lt_of_le (Nat.lt_of_lt_of_le ltb9.out ((Nat.le_trans ((Nat.le_trans ((Nat.le_trans (hs22.out.size) hs32.out.size)) hs41.out.size)) hs48.out.size))) lbb49.out)) ((Option.some.inj hk).trans e))
  have h113 := h100.grow hs109.out (fun k hk e => (Nat.ne_of_lt (Nat.lt_of_lt_of_le (Nat.lt_of_lt_of_le ltb9.out ((Nat.le_trans ((Nat.le_trans ((Nat.le_trans ((Nat.le_trans (hs22.out.size) hs32.out.size)) hs41.out.size)) hs48.out.size)) hu51.out.size))) lbb52.out)) ((Option.some.inj hk).trans e))
  refine ⟨_, rfl, ?_⟩
  simp only[Act.put,nm1,nm2,nm3]
  refine wpList_nil ?_
  refine wrapQ_k ?_
  refine late_consT ⟨h112, h113, True.intro⟩ ?_
  refine step_call wn (by go_simp <;> rfl) (spec_l06Bad.calls K b9 a0_A a0_c a0 t104 t105 t16 t24 t25 t35 t114 t115 t116 t117 t118 w107 h108 (ha0.up ((((hm75.out.sto (Nat.le_trans ((Nat.le_trans ((Nat.le_trans ((Nat.le_trans ((Nat.le_trans ((Nat.le_trans ((Nat.le_trans ((Nat.le_trans (hu4.out.size) hu7.out.size)) hu14.out.size)) hs22.out.size)) hs32.out.size)) hs41.out.size)) hs48.out.size)) hu51.out.size)) lbb52.out) hs79.out).trans hu89.out).grow hs96.out (fun k hk => Nat.le_trans ((Nat.le_trans (hu4.out.size) hu7.out.size)) ((fun k hk => Nat.le_trans lbb9.out (Nat.le_of_eq (Option.some.inj hk))) k hk))).grow hs109.out (fun k hk => Nat.le_trans ((Nat.le_trans (hu4.out.size) hu7.out.size)) ((fun k hk => Nat.le_trans lbb9.out (Nat.le_of_eq (Option.some.inj hk))) k hk)))) (fun k hk hp => Nat.ne_of_lt (Nat.lt_of_lt_of_le ((ha0.up (hu4.out.trans hu7.out)).blk_lt hp k hk) lbb9.out)) A119.out) ?_
  rintro e w120 ⟨rfl, h121, hs⟩
  have hs122 := Aside0.mk hs
  clear hs
  have h123 := h110.grow hs122.out (fun k hk e => (Ne.symm (Nat.ne_of_lt (Nat.lt_of_lt_of_le (Nat.lt_of_lt_of_le ltb2.out (hu7.out.size)) lbb9.out))) ((Option.some.inj hk).trans e))
  have h124 := h111.grow hs122.out (fun k hk e => (Ne.symm (Nat.ne_of_lt (Nat.lt_of_lt_of_le ltb5.out lbb9.out))) ((Option.some.inj hk).trans e))
  have h125 := h112.grow hs122.out (fun k hk e => (Nat.ne_of_lt (Nat.lt_of_lt_of_le (Nat.lt_of_lt_of_le ltb9.out ((Nat.le_trans ((Nat.le_trans ((Nat.le_trans (hs22.out.size) hs32.out.size)) hs41.out.size)) hs48.out.size))) lbb49.out)) ((Option.some.inj hk).trans e))
  have h126 := h113.grow hs122.out (fun k hk e => (Nat.ne_of_lt (Nat.lt_of_lt_of_le (Nat.lt_of_lt_of_le ltb9.out ((Nat.le_trans ((Nat.le_trans ((Nat.le_trans ((Nat.le_trans (hs22.out.size) hs32.out.size)) hs41.out.size)) hs48.out.size)) hu51.out.size))) lbb52.out)) ((Option.some.inj hk).trans e))
  refine ⟨_, rfl, ?_⟩
  simp only[Act.put,nm1,nm2,nm3]
  refine wpList_nil ?_
  refine wrapQ_k ?_
  refine late_consT ⟨h125, h126, True.intro⟩ ?_
  refine wpp fun k h=>?_;go_simp;apply h;clear h k
  refine wpList_nil ?_
  refine wrapQ_k ?_
  refine late_consT ⟨h125, h126, True.intro⟩ ?_
  refine wpp fun k h=>?_;go_simp;apply h;clear h k
  refine wpList_nil ?_
  refine wrapQ_k ?_
  refine late_consT ⟨h125, h126, True.intro⟩ ?_
  have hB0 := h123
  have cl0 := hB0.cell (o := 0) rfl
  have fr0 := hB0.free 0
  have cl1 := hB0.cell (o := 1) rfl
  have fr1 := hB0.free 1
  have cl2 := hB0.cell (o := 2) rfl
  have fr2 := hB0.free 2
  refine step_store (b := b2) (cs' := [.int .i64 t101, .int .i64 t102, .int .i64 t103]) (T := 71) (W' := (((w120.setCell ⟨b2, 0, none⟩ (.int .i64 t101)).setCell ⟨b2, 1, none⟩ (.int .i64 t102)).setCell ⟨b2, 2, none⟩ (.int .i64 t103))) rfl rfl (by go_simp <;> rfl) ((((Sto.refl _ _).setCell 0 _).setCell 1 _).setCell 2 _) ((((hB0).setCell 0 _).setCell 1 _).setCell 2 _) ?_
  clear hB0 cl0 fr0 cl1 fr1 cl2 fr2
  intro w127 hs hb129
  have hs128 := Aside0.mk hs
  clear hs
  have h130 := h124.sto hs128.out (Ne.symm (Nat.ne_of_lt (Nat.lt_of_lt_of_le ltb2.out lbb5.out)))
  have h131 := h121.sto hs128.out (Ne.symm (Nat.ne_of_lt (Nat.lt_of_lt_of_le (Nat.lt_of_lt_of_le ltb2.out (hu7.out.size)) lbb9.out)))
  have h132 := h125.sto hs128.out (Ne.symm (Nat.ne_of_lt (Nat.lt_of_lt_of_le (Nat.lt_of_lt_of_le ltb2.out ((Nat.le_trans ((Nat.le_trans ((Nat.le_trans ((Nat.le_trans ((Nat.le_trans (hu7.out.size) hu14.out.size)) hs22.out.size)) hs32.out.size)) hs41.out.size)) hs48.out.size))) lbb49.out)))
  have h133 := h126.sto hs128.out (Ne.symm (Nat.ne_of_lt (Nat.lt_of_lt_of_le (Nat.lt_of_lt_of_le ltb2.out ((Nat.le_trans ((Nat.le_trans ((Nat.le_trans ((Nat.le_trans ((Nat.le_trans ((Nat.le_trans (hu7.out.size) hu14.out.size)) hs22.out.size)) hs32.out.size)) hs41.out.size)) hs48.out.size)) hu51.out.size))) lbb52.out)))
  refine wpList_nil ?_
  refine wrapQ_k ?_
  refine late_consT ⟨h132, h133, True.intro⟩ ?_
  have hB0 := h130
  have cl0 := hB0.cell (o := 0) rfl
  have fr0 := hB0.free 0
  have cl1 := hB0.cell (o := 1) rfl
  have fr1 := hB0.free 1
  have cl2 := hB0.cell (o := 2) rfl
  have fr2 := hB0.free 2
  refine step_store (b := b5) (cs' := [.int .i64 t114, .int .i64 t115, .int .i64 t116]) (T := 71) (W' := (((w127.setCell ⟨b5, 0, none⟩ (.int .i64 t114)).setCell ⟨b5, 1, none⟩ (.int .i64 t115)).setCell ⟨b5, 2, none⟩ (.int .i64 t116))) rfl rfl (by go_simp <;> rfl) ((((Sto.refl _ _).setCell 0 _).setCell 1 _).setCell 2 _) ((((hB0).setCell 0 _).setCell 1 _).setCell 2 _) ?_
  clear hB0 cl0 fr0 cl1 fr1 cl2 fr2
  intro w134 hs hb136
  have hs135 := Aside0.mk hs
  clear hs
  have h137 := hb129.sto hs135.out (Nat.ne_of_lt (Nat.lt_of_lt_of_le ltb2.out lbb5.out))
  have h138 := h131.sto hs135.out (Ne.symm (Nat.ne_of_lt (Nat.lt_of_lt_of_le ltb5.out lbb9.out)))
  have h139 := h132.sto hs135.out (Ne.symm (Nat.ne_of_lt (Nat.lt_of_lt_of_le (Nat.lt_of_lt_of_le ltb5.out ((Nat.le_trans ((Nat.le_trans ((Nat.le_trans ((Nat.le_trans (hu14.out.size) hs22.out.size)) hs32.out.size)) hs41.out.size)) hs48.out.size))) lbb49.out)))
  have h140 := h133.sto hs135.out (Ne.symm (Nat.ne_of_lt (Nat.lt_of_lt_of_le (Nat.lt_of_lt_of_le ltb5.out ((Nat.le_trans ((Nat.le_trans ((Nat.le_trans ((Nat.le_trans ((Nat.le_trans (hu14.out.size) hs22.out.size)) hs32.out.size)) hs41.out.size)) hs48.out.size)) hu51.out.size))) lbb52.out)))
  refine wpList_nil ?_
  refine wrapQ_k ?_
  refine late_nilT ⟨h139, h140, True.intro⟩ ?_
  refine hK85 _ _ ?_
  refine wp_ret ?_
  refine hQf _ _ _ ?_
  have cr0 := h137.cell (o := 0) rfl
  have cr1 := h137.cell (o := 1) rfl
  have cr2 := h137.cell (o := 2) rfl
  have cr3 := hb136.cell (o := 0) rfl
  have cr4 := hb136.cell (o := 1) rfl
  have cr5 := hb136.cell (o := 2) rfl
  exact bodyPost_ret (v := .tuple #[.int .i64 t90, .int .i64 t42, .agg #[.int .i64 t101, .int .i64 t102, .int .i64 t103], .agg #[.int .i64 t114, .int .i64 t115, .int .i64 t116]]) (by first|rfl|simp [results, Try.results141, go_sem, cr0, cr1, cr2, cr3, cr4, cr5]<;>rfl) rfl ⟨rfl, (((((((hm75.out.sto (Nat.le_trans ((Nat.le_trans ((Nat.le_trans ((Nat.le_trans ((Nat.le_trans ((Nat.le_trans ((Nat.le_trans ((Nat.le_trans (hu4.out.size) hu7.out.size)) hu14.out.size)) hs22.out.size)) hs32.out.size)) hs41.out.size)) hs48.out.size)) hu51.out.size)) lbb52.out) hs79.out).trans hu89.out).grow hs96.out (fun k hk => Nat.le_trans ((Nat.le_trans (hu4.out.size) hu7.out.size)) ((fun k hk => Nat.le_trans lbb9.out (Nat.le_of_eq (Option.some.inj hk))) k hk))).grow hs109.out (fun k hk => Nat.le_trans ((Nat.le_trans (hu4.out.size) hu7.out.size)) ((fun k hk => Nat.le_trans lbb9.out (Nat.le_of_eq (Option.some.inj hk))) k hk))).grow hs122.out (fun k hk => Nat.le_trans ((Nat.le_trans (hu4.out.size) hu7.out.size)) ((fun k hk => Nat.le_trans lbb9.out (Nat.le_of_eq (Option.some.inj hk))) k hk))).sto (Nat.le_trans (Nat.le_refl _) lbb2.out) hs128.out).sto (Nat.le_trans (hu4.out.size) lbb5.out) hs135.out)⟩

set_option maxHeartbeats 40000000 in
set_option maxRecDepth 100000 in
theorem spec_DrawRadicalLine.calls (K : Nat) (a0_A : Option Addr) (a0_c : Nat) (a0 : List (Int)) (r0 : Int) (r1 : Int) (r2 : Int) (r3 : Int) (r4 : Int) (r5 : Int) (r6 : Int) (r7 : Int) (w : World) (ha0 : Rd eU8 w a0_A a0) (h : spec_DrawRadicalLine.f K a0 = some (r0, r1, r2, r3, r4, r5, r6, r7)) :
    Calls Try.prog 51 #[.slice a0_A a0.length a0_c] w fun e w' => e = .returned (.tuple #[.int .i64 r0, .int .i64 r1, .agg #[.int .i64 r2, .int .i64 r3, .int .i64 r4], .agg #[.int .i64 r5, .int .i64 r6, .int .i64 r7]]) ∧ Up w w' := by
 have H : (((spec_l06Two.f K a0).bind fun (t9, t10, t11, t12, t13, t14, t15, t16) => some (t9, t10, t11, t12, t13, t14, t15, t16)) : Option (Int × Int × Int × Int × Int × Int × Int × Int)) = some (r0, r1, r2, r3, r4, r5, r6, r7) := h
 clear h
 obtain ⟨⟨t9, t10, t11, t12, t13, t14, t15, t16⟩,A17,H⟩:=Option.bind_eq_some_iff.mp H
 replace A17:=Aside0.mk A17;try dsimp only at H
 simp only [Option.some.injEq, Prod.mk.injEq] at H
 obtain ⟨rfl, rfl, rfl, rfl, rfl, rfl, rfl, rfl⟩ := H
 go_enter Try.func51, Try.ntmps51
 refine wp_hide (fun Qf hQf => ?_)
 refine wp_seq_k fun K1 hK1=>wp_region_lit ?_
 iterate 2 (refine wpp fun k h=>?_;go_simp;apply h;clear h k)
 refine step_new (cs := [.int .i64 0, .int .i64 0, .int .i64 0]) (T := 71) (f := fun b => .pointer (some ⟨b, 0, none⟩)) rfl (by go_simp <;> rfl) ?_
 intro b2 w3 hu lb hb2
 simp only[Act.put,nm1,nm2,nm3]
 have lbb2 := Aside0.mk lb
 have ltb2 := Aside0.mk hb2.lt
 clear lb
 have hu4 := Aside0.mk hu
 clear hu
 refine step_new (cs := [.int .i64 0, .int .i64 0, .int .i64 0]) (T := 71) (f := fun b => .pointer (some ⟨b, 0, none⟩)) rfl (by go_simp <;> rfl) ?_
 intro b5 w6 hu lb hb5
 simp only[Act.put,nm1,nm2,nm3]
 have lbb5 := Aside0.mk lb
 have ltb5 := Aside0.mk hb5.lt
 clear lb
 have hu7 := Aside0.mk hu
 clear hu
 refine wpList_nil (hK1 _ _ ?_)
 refine wp_seq_k fun K8 hK8=>wp_region_lit ?_
 refine wpp fun k h=>?_;go_simp;apply h;clear h k
 refine step_call wn (by go_simp <;> rfl) (spec_l06Two.calls K a0_A a0_c a0 t9 t10 t11 t12 t13 t14 t15 t16 w6 (ha0.up (hu4.out.trans hu7.out)) A17.out) ?_
 rintro e w18 ⟨rfl, hu⟩
 have hu19 := Aside0.mk hu
 clear hu
 refine ⟨_, rfl, ?_⟩
 simp only[Act.put,nm1,nm2,nm3]
 iterate 6 (refine wpp fun k h=>?_;go_simp;apply h;clear h k)
 have hB0 := (hb2.up (hu7.out.trans hu19.out))
 have cl0 := hB0.cell (o := 0) rfl
 have fr0 := hB0.free 0
 have cl1 := hB0.cell (o := 1) rfl
 have fr1 := hB0.free 1
 have cl2 := hB0.cell (o := 2) rfl
 have fr2 := hB0.free 2
 refine step_store (b := b2) (cs' := [.int .i64 t11, .int .i64 t12, .int .i64 t13]) (T := 71) (W' := (((w18.setCell ⟨b2, 0, none⟩ (.int .i64 t11)).setCell ⟨b2, 1, none⟩ (.int .i64 t12)).setCell ⟨b2, 2, none⟩ (.int .i64 t13))) rfl rfl (by go_simp <;> rfl) ((((Sto.refl _ _).setCell 0 _).setCell 1 _).setCell 2 _) ((((hB0).setCell 0 _).setCell 1 _).setCell 2 _) ?_
 clear hB0 cl0 fr0 cl1 fr1 cl2 fr2
 intro w20 hs hb22
 have hs21 := Aside0.mk hs
 clear hs
 have h23 := (hb5.up hu19.out).sto hs21.out (Ne.symm (Nat.ne_of_lt (Nat.lt_of_lt_of_le ltb2.out lbb5.out)))
 have hB0 := h23
 have cl0 := hB0.cell (o := 0) rfl
 have fr0 := hB0.free 0
 have cl1 := hB0.cell (o := 1) rfl
 have fr1 := hB0.free 1
 have cl2 := hB0.cell (o := 2) rfl
 have fr2 := hB0.free 2
 refine step_store (b := b5) (cs' := [.int .i64 t14, .int .i64 t15, .int .i64 t16]) (T := 71) (W' := (((w20.setCell ⟨b5, 0, none⟩ (.int .i64 t14)).setCell ⟨b5, 1, none⟩ (.int .i64 t15)).setCell ⟨b5, 2, none⟩ (.int .i64 t16))) rfl rfl (by go_simp <;> rfl) ((((Sto.refl _ _).setCell 0 _).setCell 1 _).setCell 2 _) ((((hB0).setCell 0 _).setCell 1 _).setCell 2 _) ?_
 clear hB0 cl0 fr0 cl1 fr1 cl2 fr2
 intro w24 hs hb26
 have hs25 := Aside0.mk hs
 clear hs
 have h27 := hb22.sto hs25.out (Nat.ne_of_lt (Nat.lt_of_lt_of_le ltb2.out lbb5.out))
 refine wpList_nil (hK8 _ _ ?_)
 refine wp_ret ?_
 refine hQf _ _ _ ?_
 have cr0 := h27.cell (o := 0) rfl
 have cr1 := h27.cell (o := 1) rfl
 have cr2 := h27.cell (o := 2) rfl
 have cr3 := hb26.cell (o := 0) rfl
 have cr4 := hb26.cell (o := 1) rfl
 have cr5 := hb26.cell (o := 2) rfl
 exact bodyPost_ret (v := .tuple #[.int .i64 t9, .int .i64 t10, .agg #[.int .i64 t11, .int .i64 t12, .int .i64 t13], .agg #[.int .i64 t14, .int .i64 t15, .int .i64 t16]]) (by first|rfl|simp [results, Try.results51, go_sem, cr0, cr1, cr2, cr3, cr4, cr5]<;>rfl) rfl ⟨rfl, ((((hu4.out.trans hu7.out).trans hu19.out).sto (Nat.le_trans (Nat.le_refl _) lbb2.out) hs21.out).sto (Nat.le_trans (hu4.out.size) lbb5.out) hs25.out)⟩

set_option maxHeartbeats 40000000 in
set_option maxRecDepth 100000 in
theorem impl_IsField.calls (K : Nat) (a0 : Int) (r0 : Bool) (w : World)  (h : impl_IsField.f K a0 = some (r0)) :
    Calls Try.prog 170 #[.int .i64 a0] w fun e w' => e = .returned (.bool r0) ∧ Up w w' := by
 have H : ((if (a0 == 3) = true then some true else (if (a0 == 5) = true then some true else (if (a0 == 7) = true then some true else (if (a0 == 11) = true then some true else (if (a0 == 13) = true then some true else (if (a0 == 17) = true then some true else (if (a0 == 19) = true then some true else (if (a0 == 23) = true then some true else (if (a0 == 29) = true then some true else (if (a0 == 31) = true then some true else some false)))))))))) : Option (Bool)) = some (r0) := h
 clear h
 go_enter Try.func170, Try.ntmps170
 refine wp_hide (fun Qf hQf => ?_)
 refine wp_seq_k fun K1 hK1=>wp_region_lit ?_
 refine wpp fun k h=>?_;go_simp;apply h;clear h k
 refine wpList_nil (hK1 _ _ ?_)
 refine wp_seq_k fun K2 hK2=>?_
 refine wp_seq_k fun K3 hK3=>wp_region_lit ?_
 refine wpp fun k h=>?_;go_simp;apply h;clear h k
 refine wpList_nil (hK3 _ _ ?_)
 refine wp_block ?_
 refine wp_seq_k fun K4 hK4=>?_
 refine wp_seq_k fun K5 hK5=>wp_region_lit ?_
 iterate 2 (refine wpp fun k h=>?_;go_simp;apply h;clear h k)
 refine wpList_nil (hK5 _ _ ?_)
 by_cases c6 : (a0 == 3) = true
 ·
  rw [if_pos c6] at H
  have c6n : (a0 != 3) = false := by rw [bne, c6]; rfl
  obtain rfl := Option.some.inj H
  try simp only [c6, c6n, Bool.not_true, Bool.not_false]
  refine wp_cond_true rfl ?_
  refine wp_skip ?_
  refine hK4 _ _ ?_
  refine wp_cond_true rfl ?_
  refine wp_seq_k fun K7 hK7=>wp_region_lit ?_
  refine wpp fun k h=>?_;go_simp;apply h;clear h k
  refine wpList_nil (hK7 _ _ ?_)
  refine wp_ret ?_
  refine hQf _ _ _ ?_
  exact bodyPost_ret (v := .bool true) (by first|rfl|simp [results, Try.results170, go_sem]<;>rfl) rfl ⟨rfl, (Up.refl _)⟩
 rw [if_neg c6] at H; replace c6 := Bool.eq_false_iff.mpr c6
 have c6n : (a0 != 3) = true := by rw [bne, c6]; rfl
 have c6p : ¬ a0 = 3 := fun e => by simp [e] at c6
 try simp only [c6, c6n, Bool.not_true, Bool.not_false]
 refine wp_cond_false rfl ?_
 refine wp_seq_k fun K8 hK8=>wp_region_lit ?_
 iterate 2 (refine wpp fun k h=>?_;go_simp;apply h;clear h k)
 refine wpList_nil (hK8 _ _ ?_)
 by_cases c9 : (a0 == 5) = true
 ·
  rw [if_pos c9] at H
  have c9n : (a0 != 5) = false := by rw [bne, c9]; rfl
  obtain rfl := Option.some.inj H
  try simp only [c9, c9n, Bool.not_true, Bool.not_false]
  refine wp_cond_true rfl ?_
  refine wp_skip ?_
  refine hK4 _ _ ?_
  refine wp_cond_true rfl ?_
  refine wp_seq_k fun K10 hK10=>wp_region_lit ?_
  refine wpp fun k h=>?_;go_simp;apply h;clear h k
  refine wpList_nil (hK10 _ _ ?_)
  refine wp_ret ?_
  refine hQf _ _ _ ?_
  exact bodyPost_ret (v := .bool true) (by first|rfl|simp [results, Try.results170, go_sem]<;>rfl) rfl ⟨rfl, (Up.refl _)⟩
 rw [if_neg c9] at H; replace c9 := Bool.eq_false_iff.mpr c9
 have c9n : (a0 != 5) = true := by rw [bne, c9]; rfl
 have c9p : ¬ a0 = 5 := fun e => by simp [e] at c9
 try simp only [c9, c9n, Bool.not_true, Bool.not_false]
 refine wp_cond_false rfl ?_
 refine wp_seq_k fun K11 hK11=>wp_region_lit ?_
 iterate 2 (refine wpp fun k h=>?_;go_simp;apply h;clear h k)
 refine wpList_nil (hK11 _ _ ?_)
 by_cases c12 : (a0 == 7) = true
 ·
  rw [if_pos c12] at H
  have c12n : (a0 != 7) = false := by rw [bne, c12]; rfl
  obtain rfl := Option.some.inj H
  try simp only [c12, c12n, Bool.not_true, Bool.not_false]
  refine wp_cond_true rfl ?_
  refine wp_skip ?_
  refine hK4 _ _ ?_
  refine wp_cond_true rfl ?_
  refine wp_seq_k fun K13 hK13=>wp_region_lit ?_
  refine wpp fun k h=>?_;go_simp;apply h;clear h k
  refine wpList_nil (hK13 _ _ ?_)
  refine wp_ret ?_
  refine hQf _ _ _ ?_
  exact bodyPost_ret (v := .bool true) (by first|rfl|simp [results, Try.results170, go_sem]<;>rfl) rfl ⟨rfl, (Up.refl _)⟩
 rw [if_neg c12] at H; replace c12 := Bool.eq_false_iff.mpr c12
 have c12n : (a0 != 7) = true := by rw [bne, c12]; rfl
 have c12p : ¬ a0 = 7 := fun e => by simp [e] at c12
 try simp only [c12, c12n, Bool.not_true, Bool.not_false]
 refine wp_cond_false rfl ?_
 refine wp_seq_k fun K14 hK14=>wp_region_lit ?_
 iterate 2 (refine wpp fun k h=>?_;go_simp;apply h;clear h k)
 refine wpList_nil (hK14 _ _ ?_)
 by_cases c15 : (a0 == 11) = true
 ·
  rw [if_pos c15] at H
  have c15n : (a0 != 11) = false := by rw [bne, c15]; rfl
  obtain rfl := Option.some.inj H
  try simp only [c15, c15n, Bool.not_true, Bool.not_false]
  refine wp_cond_true rfl ?_
  refine wp_skip ?_
  refine hK4 _ _ ?_
  refine wp_cond_true rfl ?_
  refine wp_seq_k fun K16 hK16=>wp_region_lit ?_
  refine wpp fun k h=>?_;go_simp;apply h;clear h k
  refine wpList_nil (hK16 _ _ ?_)
  refine wp_ret ?_
  refine hQf _ _ _ ?_
  exact bodyPost_ret (v := .bool true) (by first|rfl|simp [results, Try.results170, go_sem]<;>rfl) rfl ⟨rfl, (Up.refl _)⟩
 rw [if_neg c15] at H; replace c15 := Bool.eq_false_iff.mpr c15
 have c15n : (a0 != 11) = true := by rw [bne, c15]; rfl
 have c15p : ¬ a0 = 11 := fun e => by simp [e] at c15
 try simp only [c15, c15n, Bool.not_true, Bool.not_false]
 refine wp_cond_false rfl ?_
 refine wp_seq_k fun K17 hK17=>wp_region_lit ?_
 iterate 2 (refine wpp fun k h=>?_;go_simp;apply h;clear h k)
 refine wpList_nil (hK17 _ _ ?_)
 by_cases c18 : (a0 == 13) = true
 ·
  rw [if_pos c18] at H
  have c18n : (a0 != 13) = false := by rw [bne, c18]; rfl
  obtain rfl := Option.some.inj H
  try simp only [c18, c18n, Bool.not_true, Bool.not_false]
  refine wp_cond_true rfl ?_
  refine wp_skip ?_
  refine hK4 _ _ ?_
  refine wp_cond_true rfl ?_
  refine wp_seq_k fun K19 hK19=>wp_region_lit ?_
  refine wpp fun k h=>?_;go_simp;apply h;clear h k
  refine wpList_nil (hK19 _ _ ?_)
  refine wp_ret ?_
  refine hQf _ _ _ ?_
  exact bodyPost_ret (v := .bool true) (by first|rfl|simp [results, Try.results170, go_sem]<;>rfl) rfl ⟨rfl, (Up.refl _)⟩
 rw [if_neg c18] at H; replace c18 := Bool.eq_false_iff.mpr c18
 have c18n : (a0 != 13) = true := by rw [bne, c18]; rfl
 have c18p : ¬ a0 = 13 := fun e => by simp [e] at c18
 try simp only [c18, c18n, Bool.not_true, Bool.not_false]
 refine wp_cond_false rfl ?_
 refine wp_seq_k fun K20 hK20=>wp_region_lit ?_
 iterate 2 (refine wpp fun k h=>?_;go_simp;apply h;clear h k)
 refine wpList_nil (hK20 _ _ ?_)
 by_cases c21 : (a0 == 17) = true
 ·
  rw [if_pos c21] at H
  have c21n : (a0 != 17) = false := by rw [bne, c21]; rfl
  obtain rfl := Option.some.inj H
  try simp only [c21, c21n, Bool.not_true, Bool.not_false]
  refine wp_cond_true rfl ?_
  refine wp_skip ?_
  refine hK4 _ _ ?_
  refine wp_cond_true rfl ?_
  refine wp_seq_k fun K22 hK22=>wp_region_lit ?_
  refine wpp fun k h=>?_;go_simp;apply h;clear h k
  refine wpList_nil (hK22 _ _ ?_)
  refine wp_ret ?_
  refine hQf _ _ _ ?_
  exact bodyPost_ret (v := .bool true) (by first|rfl|simp [results, Try.results170, go_sem]<;>rfl) rfl ⟨rfl, (Up.refl _)⟩
 rw [if_neg c21] at H; replace c21 := Bool.eq_false_iff.mpr c21
 have c21n : (a0 != 17) = true := by rw [bne, c21]; rfl
 have c21p : ¬ a0 = 17 := fun e => by simp [e] at c21
 try simp only [c21, c21n, Bool.not_true, Bool.not_false]
 refine wp_cond_false rfl ?_
 refine wp_seq_k fun K23 hK23=>wp_region_lit ?_
 iterate 2 (refine wpp fun k h=>?_;go_simp;apply h;clear h k)
 refine wpList_nil (hK23 _ _ ?_)
 by_cases c24 : (a0 == 19) = true
 ·
  rw [if_pos c24] at H
  have c24n : (a0 != 19) = false := by rw [bne, c24]; rfl
  obtain rfl := Option.some.inj H
  try simp only [c24, c24n, Bool.not_true, Bool.not_false]
  refine wp_cond_true rfl ?_
  refine wp_skip ?_
  refine hK4 _ _ ?_
  refine wp_cond_true rfl ?_
  refine wp_seq_k fun K25 hK25=>wp_region_lit ?_
  refine wpp fun k h=>?_;go_simp;apply h;clear h k
  refine wpList_nil (hK25 _ _ ?_)
  refine wp_ret ?_
  refine hQf _ _ _ ?_
  exact bodyPost_ret (v := .bool true) (by first|rfl|simp [results, Try.results170, go_sem]<;>rfl) rfl ⟨rfl, (Up.refl _)⟩
 rw [if_neg c24] at H; replace c24 := Bool.eq_false_iff.mpr c24
 have c24n : (a0 != 19) = true := by rw [bne, c24]; rfl
 have c24p : ¬ a0 = 19 := fun e => by simp [e] at c24
 try simp only [c24, c24n, Bool.not_true, Bool.not_false]
 refine wp_cond_false rfl ?_
 refine wp_seq_k fun K26 hK26=>wp_region_lit ?_
 iterate 2 (refine wpp fun k h=>?_;go_simp;apply h;clear h k)
 refine wpList_nil (hK26 _ _ ?_)
 by_cases c27 : (a0 == 23) = true
 ·
  rw [if_pos c27] at H
  have c27n : (a0 != 23) = false := by rw [bne, c27]; rfl
  obtain rfl := Option.some.inj H
  try simp only [c27, c27n, Bool.not_true, Bool.not_false]
  refine wp_cond_true rfl ?_
  refine wp_skip ?_
  refine hK4 _ _ ?_
  refine wp_cond_true rfl ?_
  refine wp_seq_k fun K28 hK28=>wp_region_lit ?_
  refine wpp fun k h=>?_;go_simp;apply h;clear h k
  refine wpList_nil (hK28 _ _ ?_)
  refine wp_ret ?_
  refine hQf _ _ _ ?_
  exact bodyPost_ret (v := .bool true) (by first|rfl|simp [results, Try.results170, go_sem]<;>rfl) rfl ⟨rfl, (Up.refl _)⟩
 rw [if_neg c27] at H; replace c27 := Bool.eq_false_iff.mpr c27
 have c27n : (a0 != 23) = true := by rw [bne, c27]; rfl
 have c27p : ¬ a0 = 23 := fun e => by simp [e] at c27
 try simp only [c27, c27n, Bool.not_true, Bool.not_false]
 refine wp_cond_false rfl ?_
 refine wp_seq_k fun K29 hK29=>wp_region_lit ?_
 iterate 2 (refine wpp fun k h=>?_;go_simp;apply h;clear h k)
 refine wpList_nil (hK29 _ _ ?_)
 by_cases c30 : (a0 == 29) = true
 ·
  rw [if_pos c30] at H
  have c30n : (a0 != 29) = false := by rw [bne, c30]; rfl
  obtain rfl := Option.some.inj H
  try simp only [c30, c30n, Bool.not_true, Bool.not_false]
  refine wp_cond_true rfl ?_
  refine wp_skip ?_
  refine hK4 _ _ ?_
  refine wp_cond_true rfl ?_
  refine wp_seq_k fun K31 hK31=>wp_region_lit ?_
  refine wpp fun k h=>?_;go_simp;apply h;clear h k
  refine wpList_nil (hK31 _ _ ?_)
  refine wp_ret ?_
  refine hQf _ _ _ ?_
  exact bodyPost_ret (v := .bool true) (by first|rfl|simp [results, Try.results170, go_sem]<;>rfl) rfl ⟨rfl, (Up.refl _)⟩
 rw [if_neg c30] at H; replace c30 := Bool.eq_false_iff.mpr c30
 have c30n : (a0 != 29) = true := by rw [bne, c30]; rfl
 have c30p : ¬ a0 = 29 := fun e => by simp [e] at c30
 try simp only [c30, c30n, Bool.not_true, Bool.not_false]
 refine wp_cond_false rfl ?_
 refine wp_region_lit ?_
 iterate 2 (refine wpp fun k h=>?_;go_simp;apply h;clear h k)
 refine wpList_nil (hK4 _ _ ?_)
 by_cases c32 : (a0 == 31) = true
 ·
  rw [if_pos c32] at H
  have c32n : (a0 != 31) = false := by rw [bne, c32]; rfl
  obtain rfl := Option.some.inj H
  try simp only [c32, c32n, Bool.not_true, Bool.not_false]
  refine wp_cond_true rfl ?_
  refine wp_seq_k fun K33 hK33=>wp_region_lit ?_
  refine wpp fun k h=>?_;go_simp;apply h;clear h k
  refine wpList_nil (hK33 _ _ ?_)
  refine wp_ret ?_
  refine hQf _ _ _ ?_
  exact bodyPost_ret (v := .bool true) (by first|rfl|simp [results, Try.results170, go_sem]<;>rfl) rfl ⟨rfl, (Up.refl _)⟩
 rw [if_neg c32] at H; replace c32 := Bool.eq_false_iff.mpr c32
 have c32n : (a0 != 31) = true := by rw [bne, c32]; rfl
 have c32p : ¬ a0 = 31 := fun e => by simp [e] at c32
 obtain rfl := Option.some.inj H
 try simp only [c32, c32n, Bool.not_true, Bool.not_false]
 refine wp_cond_false rfl ?_
 refine wp_skip ?_
 refine hK2 _ _ ?_
 refine wp_seq_k fun K34 hK34=>wp_region_lit ?_
 refine wpp fun k h=>?_;go_simp;apply h;clear h k
 refine wpList_nil (hK34 _ _ ?_)
 refine wp_ret ?_
 refine hQf _ _ _ ?_
 exact bodyPost_ret (v := .bool false) (by first|rfl|simp [results, Try.results170, go_sem]<;>rfl) rfl ⟨rfl, (Up.refl _)⟩

set_option maxHeartbeats 40000000 in
set_option maxRecDepth 100000 in
theorem impl_isColour.calls (K : Nat) (a0 : Int) (r0 : Bool) (w : World)  (h : impl_isColour.f K a0 = some (r0)) :
    Calls Try.prog 69 #[.int .i64 a0] w fun e w' => e = .returned (.bool r0) ∧ Up w w' := by
 have H : ((if decide (0 ≤ a0) = true then some (decide (a0 ≤ 2)) else some false) : Option (Bool)) = some (r0) := h
 clear h
 go_enter Try.func69, Try.ntmps69
 refine wp_hide (fun Qf hQf => ?_)
 refine wp_seq_k fun K1 hK1=>wp_region_lit ?_
 refine wpp fun k h=>?_;go_simp;apply h;clear h k
 refine wpList_nil (hK1 _ _ ?_)
 refine wp_seq_k fun K2 hK2=>wp_region_lit ?_
 iterate 3 (refine wpp fun k h=>?_;go_simp;apply h;clear h k)
 by_cases c3 : (decide (0 ≤ a0)) = true
 ·
  rw [if_pos c3] at H
  obtain rfl := Option.some.inj H
  try simp only [c3, Bool.not_true, Bool.not_false]
  refine wpList_step fun k h=>?_;go_simp;apply h;clear h k
  refine wpList_step fun k h=>?_;go_simp;apply h;clear h k
  iterate 2 (refine wpp fun k h=>?_;go_simp;apply h;clear h k)
  refine wpList_nil (hK2 _ _ ?_)
  refine wp_ret ?_
  refine hQf _ _ _ ?_
  exact bodyPost_ret (v := .bool (decide (a0 ≤ 2))) (by first|rfl|simp [results, Try.results69, go_sem]<;>rfl) rfl ⟨rfl, (Up.refl _)⟩
 rw [if_neg c3] at H; replace c3 := Bool.eq_false_iff.mpr c3
 obtain rfl := Option.some.inj H
 try simp only [c3, Bool.not_true, Bool.not_false]
 refine step_no rfl ?_
 simp only[Act.put,nm1,nm2,nm3]
 refine step_no rfl ?_
 simp only[Act.put,nm1,nm2,nm3]
 iterate 2 (refine wpp fun k h=>?_;go_simp;apply h;clear h k)
 refine wpList_nil (hK2 _ _ ?_)
 refine wp_ret ?_
 refine hQf _ _ _ ?_
 exact bodyPost_ret (v := .bool false) (by first|rfl|simp [results, Try.results69, go_sem]<;>rfl) rfl ⟨rfl, (Up.refl _)⟩

set_option maxHeartbeats 40000000 in
set_option maxRecDepth 100000 in
theorem impl_isNumber.calls (K : Nat) (a0 : Int) (a1 : Int) (r0 : Bool) (w : World)  (h : impl_isNumber.f K a0 a1 = some (r0)) :
    Calls Try.prog 92 #[.int .i64 a0, .int .i64 a1] w fun e w' => e = .returned (.bool r0) ∧ Up w w' := by
 have H : ((if decide (0 ≤ a1) = true then some (decide (a1 < a0)) else some false) : Option (Bool)) = some (r0) := h
 clear h
 go_enter Try.func92, Try.ntmps92
 refine wp_hide (fun Qf hQf => ?_)
 refine wp_seq_k fun K1 hK1=>wp_region_lit ?_
 refine wpp fun k h=>?_;go_simp;apply h;clear h k
 refine wpList_nil (hK1 _ _ ?_)
 refine wp_seq_k fun K2 hK2=>wp_region_lit ?_
 iterate 3 (refine wpp fun k h=>?_;go_simp;apply h;clear h k)
 by_cases c3 : (decide (0 ≤ a1)) = true
 ·
  rw [if_pos c3] at H
  obtain rfl := Option.some.inj H
  try simp only [c3, Bool.not_true, Bool.not_false]
  refine wpList_step fun k h=>?_;go_simp;apply h;clear h k
  refine wpList_step fun k h=>?_;go_simp;apply h;clear h k
  refine wpList_step fun k h=>?_;go_simp;apply h;clear h k
  iterate 2 (refine wpp fun k h=>?_;go_simp;apply h;clear h k)
  refine wpList_nil (hK2 _ _ ?_)
  refine wp_ret ?_
  refine hQf _ _ _ ?_
  exact bodyPost_ret (v := .bool (decide (a1 < a0))) (by first|rfl|simp [results, Try.results92, go_sem]<;>rfl) rfl ⟨rfl, (Up.refl _)⟩
 rw [if_neg c3] at H; replace c3 := Bool.eq_false_iff.mpr c3
 obtain rfl := Option.some.inj H
 try simp only [c3, Bool.not_true, Bool.not_false]
 refine step_no rfl ?_
 simp only[Act.put,nm1,nm2,nm3]
 refine step_no rfl ?_
 simp only[Act.put,nm1,nm2,nm3]
 refine step_no rfl ?_
 simp only[Act.put,nm1,nm2,nm3]
 iterate 2 (refine wpp fun k h=>?_;go_simp;apply h;clear h k)
 refine wpList_nil (hK2 _ _ ?_)
 refine wp_ret ?_
 refine hQf _ _ _ ?_
 exact bodyPost_ret (v := .bool false) (by first|rfl|simp [results, Try.results92, go_sem]<;>rfl) rfl ⟨rfl, (Up.refl _)⟩

set_option maxHeartbeats 40000000 in
set_option maxRecDepth 100000 in
theorem impl_areNumbers.calls (K : Nat) (a0 : Int) (a1_A : Option Addr) (a1_c : Nat) (a1 : List (Int)) (r0 : Bool) (w : World) (ha1 : Rd eI w a1_A a1) (h : impl_areNumbers.f K a0 a1 = some (r0)) :
    Calls Try.prog 73 #[.int .i64 a0, .slice a1_A a1.length a1_c] w fun e w' => e = .returned (.bool r0) ∧ Up w w' := by
 have H : ((impl_areNumbers.l0 K a0 a1 K 0) : Option (Bool)) = some (r0) := h
 clear h
 go_enter Try.func73, Try.ntmps73
 refine wp_hide (fun Qf hQf => ?_)
 refine wp_seq_k fun K1 hK1=>wp_region_lit ?_
 refine wpp fun k h=>?_;go_simp;apply h;clear h k
 refine wpList_nil (hK1 _ _ ?_)
 refine wp_seq_k fun K2 hK2=>?_
 refine wp_seq_k fun K3 hK3=>wp_region_lit ?_
 iterate 3 (refine wpp fun k h=>?_;go_simp;apply h;clear h k)
 refine wpList_nil (hK3 _ _ ?_)
 refine wp_block ?_
 have HL8 := Aside0.mk H
 clear H
 go_loopg [9] K (fun kq v9 w' => ∃ (x4 : Int), v9 = .int .i64 x4 ∧ Aside0 (impl_areNumbers.l0 K a0 a1 kq x4 = some (r0)) ∧ Aside0 (kq ≤ K) ∧ Aside0 (Up w w') ∧ Aside0 (w.heap.size ≤ w'.heap.size))
 case atStart => exact ⟨0, (by first | rfl | simp), HL8, ⟨Nat.le_refl _⟩, ⟨(Up.refl _)⟩, ⟨Nat.le_refl _⟩⟩
 case round =>
  rename_i J11 K12 hJ11 hK12
  obtain ⟨x4, rfl, HL13, hk10, hu6, hz7⟩ := hrel
  obtain ⟨w5, rfl⟩ : ∃ wo : World, wo = wr := ⟨_, rfl⟩
  obtain ⟨k9, rfl⟩ | rfl : (∃ k, gk = k + 1) ∨ gk = 0 := by rcases gk with _ | k; exact .inr rfl; exact .inl ⟨k, rfl⟩
  case inr => exact absurd HL13.out (by simp [impl_areNumbers.l0])
  have H := HL13.out
  clear HL13
  rw [impl_areNumbers.l0] at H
  refine wp_seq_k fun K14 hK14=>wp_region_lit ?_
  refine wpp fun k h=>?_;go_simp;apply h;clear h k
  refine wpList_nil (hK14 _ _ ?_)
  refine wp_seq_k fun K15 hK15=>?_
  by_cases c16 : (decide (x4 < (a1.length : Int))) = true
  rotate_left
  ·
   rw [if_neg c16] at H; replace c16 := Bool.eq_false_iff.mpr c16
   obtain rfl := Option.some.inj H
   try simp only [c16, Bool.not_true, Bool.not_false]
   refine wp_cond_false rfl ?_
   refine wp_exit ?_
   refine hK2 _ _ ?_
   refine wp_seq_k fun K32 hK32=>wp_region_lit ?_
   refine wpp fun k h=>?_;go_simp;apply h;clear h k
   refine wpList_nil (hK32 _ _ ?_)
   refine wp_ret ?_
   refine hQf _ _ _ ?_
   exact bodyPost_ret (v := .bool true) (by first|rfl|simp [results, Try.results73, go_sem]<;>rfl) rfl ⟨rfl, hu6.out⟩
  rw [if_pos c16] at H
  obtain ⟨t19,A20,H⟩:=Option.bind_eq_some_iff.mp H
  replace A20:=Aside0.mk A20;try dsimp only at H
  obtain ⟨t25,A26,H⟩:=Option.bind_eq_some_iff.mp H
  replace A26:=Aside0.mk A26;try dsimp only at H
  try simp only [c16, Bool.not_true, Bool.not_false]
  refine wp_cond_true rfl ?_
  refine wp_skip ?_
  refine hK15 _ _ ?_
  refine wp_seq_k fun K17 hK17=>?_
  refine wp_block ?_
  refine wp_seq_k fun K18 hK18=>wp_region_lit ?_
  refine step_index eI (T := 2) wn rfl (by kernel_rfl) (by kernel_rfl) rfl rfl rfl (ha1.up hu6.out) A20.out ?_
  intro ad21 hat he
  have he22 := Aside0.mk he
  have hat23 := Aside0.mk hat
  clear he hat
  simp only[Act.put,nm1,nm2,nm3]
  have cl0 := he22.out 0 _ rfl
  rw [addr_add0] at cl0
  refine wpp fun k h=>?_;go_simp;apply h;clear h k
  clear cl0
  refine wpp fun k h=>?_;go_simp;apply h;clear h k
  refine wpList_nil (hK18 _ _ ?_)
  refine wp_seq_k fun K24 hK24=>wp_region_lit ?_
  iterate 2 (refine wpp fun k h=>?_;go_simp;apply h;clear h k)
  refine step_call wn (by go_simp <;> rfl) (impl_isNumber.calls K a0 t19 t25 w5  A26.out) ?_
  rintro e w27 ⟨rfl, hu⟩
  have hu28 := Aside0.mk hu
  clear hu
  refine ⟨_, rfl, ?_⟩
  simp only[Act.put,nm1,nm2,nm3]
  refine wpp fun k h=>?_;go_simp;apply h;clear h k
  refine wpList_nil (hK24 _ _ ?_)
  by_cases c29 : (t25) = true
  rotate_left
  ·
   rw [if_neg c29] at H; replace c29 := Bool.eq_false_iff.mpr c29
   subst c29
   obtain rfl := Option.some.inj H
   refine wp_cond_true rfl ?_
   refine wp_seq_k fun K31 hK31=>wp_region_lit ?_
   refine wpp fun k h=>?_;go_simp;apply h;clear h k
   refine wpList_nil (hK31 _ _ ?_)
   refine wp_ret ?_
   refine hQf _ _ _ ?_
   exact bodyPost_ret (v := .bool false) (by first|rfl|simp [results, Try.results73, go_sem]<;>rfl) rfl ⟨rfl, (hu6.out.trans hu28.out)⟩
  rw [if_pos c29] at H
  subst c29
  have HL30 := Aside0.mk H
  clear H
  refine wp_cond_false rfl ?_
  refine wp_skip ?_
  refine hK17 _ _ ?_
  refine wp_region_lit ?_
  iterate 2 (refine wpp fun k h=>?_;go_simp;apply h;clear h k)
  refine wpList_nil (hK12 _ _ ?_)
  go_roundg k9
  case measure => exact Nat.lt_succ_self _
  case rel => exact ⟨wrap64 (x4 + 1), (by first | rfl | simp), HL30, ⟨by have := hk10.out; omega⟩, ⟨(hu6.out.trans hu28.out)⟩, ⟨(Nat.le_trans ((Nat.le_trans (Nat.le_refl _) hz7.out)) hu28.out.size)⟩⟩

set_option maxHeartbeats 40000000 in
set_option maxRecDepth 100000 in
theorem impl_isPoint.calls (K : Nat) (a0 : Int) (a1_0 : Int) (a1_1 : Int) (r0 : Bool) (w : World)  (h : impl_isPoint.f K a0 a1_0 a1_1 = some (r0)) :
    Calls Try.prog 84 #[.int .i64 a0, .agg #[.int .i64 a1_0, .int .i64 a1_1]] w fun e w' => e = .returned (.bool r0) ∧ Up w w' := by
 have H : (((impl_areNumbers.f K a0 ([a1_0, a1_1])).bind fun t6 => some t6) : Option (Bool)) = some (r0) := h
 clear h
 obtain ⟨t6,A7,H⟩:=Option.bind_eq_some_iff.mp H
 replace A7:=Aside0.mk A7;try dsimp only at H
 obtain rfl := Option.some.inj H
 go_enter Try.func84, Try.ntmps84
 refine wp_hide (fun Qf hQf => ?_)
 refine wp_seq_k fun K1 hK1=>wp_region_lit ?_
 refine step_new (cs := [.int .i64 a1_0, .int .i64 a1_1]) (T := 30) (f := fun b => .pointer (some ⟨b, 0, none⟩)) rfl (by go_simp <;> rfl) ?_
 intro b2 w3 hu lb hb2
 simp only[Act.put,nm1,nm2,nm3]
 have lbb2 := Aside0.mk lb
 have ltb2 := Aside0.mk hb2.lt
 clear lb
 have hu4 := Aside0.mk hu
 clear hu
 refine wpp fun k h=>?_;go_simp;apply h;clear h k
 refine wpList_nil (hK1 _ _ ?_)
 refine wp_seq_k fun K5 hK5=>wp_region_lit ?_
 iterate 2 (refine wpp fun k h=>?_;go_simp;apply h;clear h k)
 refine step_call wn (by go_simp <;> rfl) (impl_areNumbers.calls K a0 (some ⟨b2, 0, none⟩) 2 ([a1_0, a1_1]) t6 w3 (Rd.of_blk (E := eI) (xs := [a1_0, a1_1]) (o := 0) hb2 (by simp) (fun j u hu => by rcases j with _ | _ | j <;> simp_all [Enc.flat, eI])) A7.out) ?_
 rintro e w8 ⟨rfl, hu⟩
 have hu9 := Aside0.mk hu
 clear hu
 refine ⟨_, rfl, ?_⟩
 simp only[Act.put,nm1,nm2,nm3]
 refine wpp fun k h=>?_;go_simp;apply h;clear h k
 refine wpList_nil (hK5 _ _ ?_)
 refine wp_ret ?_
 refine hQf _ _ _ ?_
 exact bodyPost_ret (v := .bool t6) (by first|rfl|simp [results, Try.results84, go_sem]<;>rfl) rfl ⟨rfl, (hu4.out.trans hu9.out)⟩

set_option maxHeartbeats 40000000 in
set_option maxRecDepth 100000 in
theorem impl_isCircle.calls (K : Nat) (a0 : Int) (a1_0 : Int) (a1_1 : Int) (a1_2 : Int) (r0 : Bool) (w : World)  (h : impl_isCircle.f K a0 a1_0 a1_1 a1_2 = some (r0)) :
    Calls Try.prog 143 #[.int .i64 a0, .agg #[.int .i64 a1_0, .int .i64 a1_1, .int .i64 a1_2]] w fun e w' => e = .returned (.bool r0) ∧ Up w w' := by
 have H : (((impl_isPoint.f K a0 a1_0 a1_1).bind fun t6 => (if t6 = true then ((impl_isNumber.f K a0 a1_2).bind fun t11 => some t11) else some false)) : Option (Bool)) = some (r0) := h
 clear h
 obtain ⟨t6,A7,H⟩:=Option.bind_eq_some_iff.mp H
 replace A7:=Aside0.mk A7;try dsimp only at H
 go_enter Try.func143, Try.ntmps143
 refine wp_hide (fun Qf hQf => ?_)
 refine wp_seq_k fun K1 hK1=>wp_region_lit ?_
 refine step_new (cs := [.int .i64 a1_0, .int .i64 a1_1, .int .i64 a1_2]) (T := 71) (f := fun b => .pointer (some ⟨b, 0, none⟩)) rfl (by go_simp <;> rfl) ?_
 intro b2 w3 hu lb hb2
 simp only[Act.put,nm1,nm2,nm3]
 have lbb2 := Aside0.mk lb
 have ltb2 := Aside0.mk hb2.lt
 clear lb
 have hu4 := Aside0.mk hu
 clear hu
 refine wpp fun k h=>?_;go_simp;apply h;clear h k
 refine wpList_nil (hK1 _ _ ?_)
 refine wp_seq_k fun K5 hK5=>wp_region_lit ?_
 iterate 2 (refine wpp fun k h=>?_;go_simp;apply h;clear h k)
 have cl0 := hb2.cell (o := 0) rfl
 have cl1 := hb2.cell (o := 1) rfl
 refine wpp fun k h=>?_;go_simp;apply h;clear h k
 clear cl0 cl1
 refine step_call wn (by go_simp <;> rfl) (impl_isPoint.calls K a0 a1_0 a1_1 t6 w3  A7.out) ?_
 rintro e w8 ⟨rfl, hu⟩
 have hu9 := Aside0.mk hu
 clear hu
 refine ⟨_, rfl, ?_⟩
 simp only[Act.put,nm1,nm2,nm3]
 refine wpp fun k h=>?_;go_simp;apply h;clear h k
 by_cases c10 : (t6) = true
 rotate_left
 ·
  rw [if_neg c10] at H; replace c10 := Bool.eq_false_iff.mpr c10
  subst c10
  obtain rfl := Option.some.inj H
  refine step_no rfl ?_
  simp only[Act.put,nm1,nm2,nm3]
  refine step_no rfl ?_
  simp only[Act.put,nm1,nm2,nm3]
  refine step_no rfl ?_
  simp only[Act.put,nm1,nm2,nm3]
  refine step_no rfl ?_
  simp only[Act.put,nm1,nm2,nm3]
  iterate 2 (refine wpp fun k h=>?_;go_simp;apply h;clear h k)
  refine wpList_nil (hK5 _ _ ?_)
  refine wp_ret ?_
  refine hQf _ _ _ ?_
  exact bodyPost_ret (v := .bool false) (by first|rfl|simp [results, Try.results143, go_sem]<;>rfl) rfl ⟨rfl, (hu4.out.trans hu9.out)⟩
 rw [if_pos c10] at H
 subst c10
 obtain ⟨t11,A12,H⟩:=Option.bind_eq_some_iff.mp H
 replace A12:=Aside0.mk A12;try dsimp only at H
 obtain rfl := Option.some.inj H
 refine wpList_step fun k h=>?_;go_simp;apply h;clear h k
 refine wpList_step fun k h=>?_;go_simp;apply h;clear h k
 have cl0 := (hb2.up hu9.out).cell (o := 2) rfl
 refine wpList_step fun k h=>?_;go_simp;apply h;clear h k
 clear cl0
 refine step_call rfl (by go_simp <;> rfl) (impl_isNumber.calls K a0 a1_2 t11 w8  A12.out) ?_
 rintro e w13 ⟨rfl, hu⟩
 have hu14 := Aside0.mk hu
 clear hu
 refine ⟨_, rfl, ?_⟩
 simp only[Act.put,nm1,nm2,nm3]
 iterate 2 (refine wpp fun k h=>?_;go_simp;apply h;clear h k)
 refine wpList_nil (hK5 _ _ ?_)
 refine wp_ret ?_
 refine hQf _ _ _ ?_
 exact bodyPost_ret (v := .bool t11) (by first|rfl|simp [results, Try.results143, go_sem]<;>rfl) rfl ⟨rfl, ((hu4.out.trans hu9.out).trans hu14.out)⟩

set_option maxHeartbeats 40000000 in
set_option maxRecDepth 100000 in
theorem impl_RadicalLine_1.calls (K : Nat) (bf0 : Nat) (f0_0 : Int) (bf1 : Nat) (f1_0 : Int) (bf2 : Nat) (f2_0 : Int) (f2_1 : Int) (f2_2 : Int) (bf3 : Nat) (f3_0 : Int) (f3_1 : Int) (f3_2 : Int) (r0 : Bool) (w : World) (hf0 : Blk w bf0 [.int .i64 f0_0] 2) (hf1 : Blk w bf1 [.int .i64 f1_0] 2) (hf2 : Blk w bf2 [.int .i64 f2_0, .int .i64 f2_1, .int .i64 f2_2] 71) (hf3 : Blk w bf3 [.int .i64 f3_0, .int .i64 f3_1, .int .i64 f3_2] 71) (h : impl_RadicalLine_1.f K f0_0 f1_0 f2_0 f2_1 f2_2 f3_0 f3_1 f3_2 = some (r0)) :
    Calls Try.prog 142 #[.pointer (some ⟨bf0, 0, none⟩), .pointer (some ⟨bf1, 0, none⟩), .pointer (some ⟨bf2, 0, none⟩), .pointer (some ⟨bf3, 0, none⟩)] w fun e w' => e = .returned (.bool r0) ∧ Up w w' := by
 have H : (((impl_isColour.f K f0_0).bind fun t3 => (if t3 = true then ((impl_isCircle.f K f1_0 f2_0 f2_1 f2_2).bind fun t8 => (if t8 = true then ((impl_isCircle.f K f1_0 f3_0 f3_1 f3_2).bind fun t13 => some t13) else some false)) else some false)) : Option (Bool)) = some (r0) := h
 clear h
 obtain ⟨t3,A4,H⟩:=Option.bind_eq_some_iff.mp H
 replace A4:=Aside0.mk A4;try dsimp only at H
 have ltbf0 := Aside0.mk hf0.lt
 have ltbf1 := Aside0.mk hf1.lt
 have ltbf2 := Aside0.mk hf2.lt
 have ltbf3 := Aside0.mk hf3.lt
 go_enter Try.func142, Try.ntmps142
 refine wp_hide (fun Qf hQf => ?_)
 refine wp_seq_k fun K1 hK1=>wp_region_lit ?_
 refine wpp fun k h=>?_;go_simp;apply h;clear h k
 refine wpList_nil (hK1 _ _ ?_)
 refine wp_seq_k fun K2 hK2=>wp_region_lit ?_
 have cl0 := hf0.cell (o := 0) rfl
 refine wpp fun k h=>?_;go_simp;apply h;clear h k
 clear cl0
 refine step_call wn (by go_simp <;> rfl) (impl_isColour.calls K f0_0 t3 w  A4.out) ?_
 rintro e w5 ⟨rfl, hu⟩
 have hu6 := Aside0.mk hu
 clear hu
 refine ⟨_, rfl, ?_⟩
 simp only[Act.put,nm1,nm2,nm3]
 refine wpp fun k h=>?_;go_simp;apply h;clear h k
 by_cases c7 : (t3) = true
 rotate_left
 ·
  rw [if_neg c7] at H; replace c7 := Bool.eq_false_iff.mpr c7
  subst c7
  obtain rfl := Option.some.inj H
  refine step_no rfl ?_
  simp only[Act.put,nm1,nm2,nm3]
  refine step_no rfl ?_
  simp only[Act.put,nm1,nm2,nm3]
  refine step_no rfl ?_
  simp only[Act.put,nm1,nm2,nm3]
  iterate 2 (refine wpp fun k h=>?_;go_simp;apply h;clear h k)
  refine step_no rfl ?_
  simp only[Act.put,nm1,nm2,nm3]
  refine step_no rfl ?_
  simp only[Act.put,nm1,nm2,nm3]
  refine step_no rfl ?_
  simp only[Act.put,nm1,nm2,nm3]
  iterate 2 (refine wpp fun k h=>?_;go_simp;apply h;clear h k)
  refine wpList_nil (hK2 _ _ ?_)
  refine wp_ret ?_
  refine hQf _ _ _ ?_
  exact bodyPost_ret (v := .bool false) (by first|rfl|simp [results, Try.results142, go_sem]<;>rfl) rfl ⟨rfl, hu6.out⟩
 rw [if_pos c7] at H
 subst c7
 obtain ⟨t8,A9,H⟩:=Option.bind_eq_some_iff.mp H
 replace A9:=Aside0.mk A9;try dsimp only at H
 have cl0 := (hf1.up hu6.out).cell (o := 0) rfl
 refine wpList_step fun k h=>?_;go_simp;apply h;clear h k
 clear cl0
 have cl0 := (hf2.up hu6.out).cell (o := 0) rfl
 have cl1 := (hf2.up hu6.out).cell (o := 1) rfl
 have cl2 := (hf2.up hu6.out).cell (o := 2) rfl
 refine wpList_step fun k h=>?_;go_simp;apply h;clear h k
 clear cl0 cl1 cl2
 refine step_call rfl (by go_simp <;> rfl) (impl_isCircle.calls K f1_0 f2_0 f2_1 f2_2 t8 w5  A9.out) ?_
 rintro e w10 ⟨rfl, hu⟩
 have hu11 := Aside0.mk hu
 clear hu
 refine ⟨_, rfl, ?_⟩
 simp only[Act.put,nm1,nm2,nm3]
 iterate 2 (refine wpp fun k h=>?_;go_simp;apply h;clear h k)
 by_cases c12 : (t8) = true
 rotate_left
 ·
  rw [if_neg c12] at H; replace c12 := Bool.eq_false_iff.mpr c12
  subst c12
  obtain rfl := Option.some.inj H
  refine step_no rfl ?_
  simp only[Act.put,nm1,nm2,nm3]
  refine step_no rfl ?_
  simp only[Act.put,nm1,nm2,nm3]
  refine step_no rfl ?_
  simp only[Act.put,nm1,nm2,nm3]
  iterate 2 (refine wpp fun k h=>?_;go_simp;apply h;clear h k)
  refine wpList_nil (hK2 _ _ ?_)
  refine wp_ret ?_
  refine hQf _ _ _ ?_
  exact bodyPost_ret (v := .bool false) (by first|rfl|simp [results, Try.results142, go_sem]<;>rfl) rfl ⟨rfl, (hu6.out.trans hu11.out)⟩
 rw [if_pos c12] at H
 subst c12
 obtain ⟨t13,A14,H⟩:=Option.bind_eq_some_iff.mp H
 replace A14:=Aside0.mk A14;try dsimp only at H
 obtain rfl := Option.some.inj H
 have cl0 := (hf1.up (hu6.out.trans hu11.out)).cell (o := 0) rfl
 refine wpList_step fun k h=>?_;go_simp;apply h;clear h k
 clear cl0
 have cl0 := (hf3.up (hu6.out.trans hu11.out)).cell (o := 0) rfl
 have cl1 := (hf3.up (hu6.out.trans hu11.out)).cell (o := 1) rfl
 have cl2 := (hf3.up (hu6.out.trans hu11.out)).cell (o := 2) rfl
 refine wpList_step fun k h=>?_;go_simp;apply h;clear h k
 clear cl0 cl1 cl2
 refine step_call rfl (by go_simp <;> rfl) (impl_isCircle.calls K f1_0 f3_0 f3_1 f3_2 t13 w10  A14.out) ?_
 rintro e w15 ⟨rfl, hu⟩
 have hu16 := Aside0.mk hu
 clear hu
 refine ⟨_, rfl, ?_⟩
 simp only[Act.put,nm1,nm2,nm3]
 iterate 2 (refine wpp fun k h=>?_;go_simp;apply h;clear h k)
 refine wpList_nil (hK2 _ _ ?_)
 refine wp_ret ?_
 refine hQf _ _ _ ?_
 exact bodyPost_ret (v := .bool t13) (by first|rfl|simp [results, Try.results142, go_sem]<;>rfl) rfl ⟨rfl, ((hu6.out.trans hu11.out).trans hu16.out)⟩

set_option maxHeartbeats 40000000 in
set_option maxRecDepth 100000 in
theorem impl_asked__impl_RadicalLine_1.calls (K : Nat) (a0 : Int) (bc1_0 : Nat) (c1_0_0 : Int) (bc1_1 : Nat) (c1_1_0 : Int) (bc1_2 : Nat) (c1_2_0 : Int) (c1_2_1 : Int) (c1_2_2 : Int) (bc1_3 : Nat) (c1_3_0 : Int) (c1_3_1 : Int) (c1_3_2 : Int) (r0 : Int) (w : World) (hc1_0 : Blk w bc1_0 [.int .i64 c1_0_0] 2) (hc1_1 : Blk w bc1_1 [.int .i64 c1_1_0] 2) (hc1_2 : Blk w bc1_2 [.int .i64 c1_2_0, .int .i64 c1_2_1, .int .i64 c1_2_2] 71) (hc1_3 : Blk w bc1_3 [.int .i64 c1_3_0, .int .i64 c1_3_1, .int .i64 c1_3_2] 71) (h : impl_asked__impl_RadicalLine_1.f K a0 c1_0_0 c1_1_0 c1_2_0 c1_2_1 c1_2_2 c1_3_0 c1_3_1 c1_3_2 = some (r0)) :
    Calls Try.prog 67 #[.int .i64 a0, .func (.func 142) #[] #[.pointer (some ⟨bc1_0, 0, none⟩), .pointer (some ⟨bc1_1, 0, none⟩), .pointer (some ⟨bc1_2, 0, none⟩), .pointer (some ⟨bc1_3, 0, none⟩)]] w fun e w' => e = .returned (.int .i64 r0) ∧ Up w w' := by
 have H : (((impl_IsField.f K a0).bind fun t4 => (if t4 = true then ((impl_RadicalLine_1.f K c1_0_0 c1_1_0 c1_2_0 c1_2_1 c1_2_2 c1_3_0 c1_3_1 c1_3_2).bind fun t11 => (if t11 = true then some 0 else some 2)) else some 1)) : Option (Int)) = some (r0) := h
 clear h
 obtain ⟨t4,A5,H⟩:=Option.bind_eq_some_iff.mp H
 replace A5:=Aside0.mk A5;try dsimp only at H
 have ltbc1_0 := Aside0.mk hc1_0.lt
 have ltbc1_1 := Aside0.mk hc1_1.lt
 have ltbc1_2 := Aside0.mk hc1_2.lt
 have ltbc1_3 := Aside0.mk hc1_3.lt
 go_enter Try.func67, Try.ntmps67
 refine wp_hide (fun Qf hQf => ?_)
 refine wp_seq_k fun K1 hK1=>wp_region_lit ?_
 refine wpp fun k h=>?_;go_simp;apply h;clear h k
 refine wpList_nil (hK1 _ _ ?_)
 refine wp_seq_k fun K2 hK2=>?_
 refine wp_seq_k fun K3 hK3=>wp_region_lit ?_
 refine wpp fun k h=>?_;go_simp;apply h;clear h k
 refine step_call wn (by go_simp <;> rfl) (impl_IsField.calls K a0 t4 w  A5.out) ?_
 rintro e w6 ⟨rfl, hu⟩
 have hu7 := Aside0.mk hu
 clear hu
 refine ⟨_, rfl, ?_⟩
 simp only[Act.put,nm1,nm2,nm3]
 refine wpp fun k h=>?_;go_simp;apply h;clear h k
 refine wpList_nil (hK3 _ _ ?_)
 by_cases c8 : (t4) = true
 rotate_left
 ·
  rw [if_neg c8] at H; replace c8 := Bool.eq_false_iff.mpr c8
  subst c8
  obtain rfl := Option.some.inj H
  refine wp_cond_true rfl ?_
  refine wp_seq_k fun K18 hK18=>wp_region_lit ?_
  refine wpp fun k h=>?_;go_simp;apply h;clear h k
  refine wpList_nil (hK18 _ _ ?_)
  refine wp_ret ?_
  refine hQf _ _ _ ?_
  exact bodyPost_ret (v := .int .i64 1) (by first|rfl|simp [results, Try.results67, go_sem]<;>rfl) rfl ⟨rfl, hu7.out⟩
 rw [if_pos c8] at H
 subst c8
 obtain ⟨t11,A12,H⟩:=Option.bind_eq_some_iff.mp H
 replace A12:=Aside0.mk A12;try dsimp only at H
 refine wp_cond_false rfl ?_
 refine wp_skip ?_
 refine hK2 _ _ ?_
 refine wp_seq_k fun K9 hK9=>?_
 refine wp_seq_k fun K10 hK10=>wp_region_lit ?_
 refine wpp fun k h=>?_;go_simp;apply h;clear h k
 refine step_call wn (by go_simp <;> rfl) (impl_RadicalLine_1.calls K bc1_0 c1_0_0 bc1_1 c1_1_0 bc1_2 c1_2_0 c1_2_1 c1_2_2 bc1_3 c1_3_0 c1_3_1 c1_3_2 t11 w6 (hc1_0.up hu7.out) (hc1_1.up hu7.out) (hc1_2.up hu7.out) (hc1_3.up hu7.out) A12.out) ?_
 rintro e w13 ⟨rfl, hu⟩
 have hu14 := Aside0.mk hu
 clear hu
 refine ⟨_, rfl, ?_⟩
 simp only[Act.put,nm1,nm2,nm3]
 refine wpp fun k h=>?_;go_simp;apply h;clear h k
 refine wpList_nil (hK10 _ _ ?_)
 by_cases c15 : (t11) = true
 rotate_left
 ·
  rw [if_neg c15] at H; replace c15 := Bool.eq_false_iff.mpr c15
  subst c15
  obtain rfl := Option.some.inj H
  refine wp_cond_true rfl ?_
  refine wp_seq_k fun K17 hK17=>wp_region_lit ?_
  refine wpp fun k h=>?_;go_simp;apply h;clear h k
  refine wpList_nil (hK17 _ _ ?_)
  refine wp_ret ?_
  refine hQf _ _ _ ?_
  exact bodyPost_ret (v := .int .i64 2) (by first|rfl|simp [results, Try.results67, go_sem]<;>rfl) rfl ⟨rfl, (hu7.out.trans hu14.out)⟩
 rw [if_pos c15] at H
 subst c15
 obtain rfl := Option.some.inj H
 refine wp_cond_false rfl ?_
 refine wp_skip ?_
 refine hK9 _ _ ?_
 refine wp_seq_k fun K16 hK16=>wp_region_lit ?_
 refine wpp fun k h=>?_;go_simp;apply h;clear h k
 refine wpList_nil (hK16 _ _ ?_)
 refine wp_ret ?_
 refine hQf _ _ _ ?_
 exact bodyPost_ret (v := .int .i64 0) (by first|rfl|simp [results, Try.results67, go_sem]<;>rfl) rfl ⟨rfl, (hu7.out.trans hu14.out)⟩

set_option maxHeartbeats 40000000 in
set_option maxRecDepth 100000 in
theorem impl_rest.calls (K : Nat) (a0 : Int) (a1 : Int) (r0 : Int) (w : World)  (h : impl_rest.f K a0 a1 = some (r0)) :
    Calls Try.prog 110 #[.int .i64 a0, .int .i64 a1] w fun e w' => e = .returned (.int .i64 r0) ∧ Up w w' := by
 have H : ((if (a0 == 0) = true then none else some (Int.tmod (wrap64 ((Int.tmod a1 a0) + a0)) a0)) : Option (Int)) = some (r0) := h
 clear h
 go_enter Try.func110, Try.ntmps110
 refine wp_hide (fun Qf hQf => ?_)
 refine wp_seq_k fun K1 hK1=>wp_region_lit ?_
 refine wpp fun k h=>?_;go_simp;apply h;clear h k
 refine wpList_nil (hK1 _ _ ?_)
 refine wp_seq_k fun K2 hK2=>wp_region_lit ?_
 iterate 2 (refine wpp fun k h=>?_;go_simp;apply h;clear h k)
 by_cases c3 : (a0 == 0) = true
 ·
  rw [if_pos c3] at H
  have c3n : (a0 != 0) = false := by rw [bne, c3]; rfl
  exact absurd H (by simp)
 rw [if_neg c3] at H; replace c3 := Bool.eq_false_iff.mpr c3
 have c3n : (a0 != 0) = true := by rw [bne, c3]; rfl
 have c3p : ¬ a0 = 0 := fun e => by simp [e] at c3
 obtain rfl := Option.some.inj H
 try simp only [c3, c3n, Bool.not_true, Bool.not_false]
 iterate 6 (refine wpp fun k h=>?_;go_simp;apply h;clear h k)
 refine wpList_nil (hK2 _ _ ?_)
 refine wp_ret ?_
 refine hQf _ _ _ ?_
 exact bodyPost_ret (v := .int .i64 (Int.tmod (wrap64 ((Int.tmod a1 a0) + a0)) a0)) (by first|rfl|simp [results, Try.results110, go_sem]<;>rfl) rfl ⟨rfl, (Up.refl _)⟩

set_option maxHeartbeats 40000000 in
set_option maxRecDepth 100000 in
theorem impl_less.calls (K : Nat) (a0 : Int) (a1_0 : Int) (a1_1 : Int) (a2_0 : Int) (a2_1 : Int) (r0 : Int) (r1 : Int) (w : World)  (h : impl_less.f K a0 a1_0 a1_1 a2_0 a2_1 = some (r0, r1)) :
    Calls Try.prog 171 #[.int .i64 a0, .agg #[.int .i64 a1_0, .int .i64 a1_1], .agg #[.int .i64 a2_0, .int .i64 a2_1]] w fun e w' => e = .returned (.agg #[.int .i64 r0, .int .i64 r1]) ∧ Up w w' := by
 have H : (((impl_rest.f K a0 (wrap64 (a1_0 - a2_0))).bind fun t12 => ((impl_rest.f K a0 (wrap64 (a1_1 - a2_1))).bind fun t14 => some (t12, t14))) : Option (Int × Int)) = some (r0, r1) := h
 clear h
 obtain ⟨t12,A13,H⟩:=Option.bind_eq_some_iff.mp H
 replace A13:=Aside0.mk A13;try dsimp only at H
 obtain ⟨t14,A15,H⟩:=Option.bind_eq_some_iff.mp H
 replace A15:=Aside0.mk A15;try dsimp only at H
 simp only [Option.some.injEq, Prod.mk.injEq] at H
 obtain ⟨rfl, rfl⟩ := H
 go_enter Try.func171, Try.ntmps171
 refine wp_hide (fun Qf hQf => ?_)
 refine wp_seq_k fun K1 hK1=>wp_region_lit ?_
 refine step_new (cs := [.int .i64 a1_0, .int .i64 a1_1]) (T := 30) (f := fun b => .pointer (some ⟨b, 0, none⟩)) rfl (by go_simp <;> rfl) ?_
 intro b2 w3 hu lb hb2
 simp only[Act.put,nm1,nm2,nm3]
 have lbb2 := Aside0.mk lb
 have ltb2 := Aside0.mk hb2.lt
 clear lb
 have hu4 := Aside0.mk hu
 clear hu
 refine step_new (cs := [.int .i64 a2_0, .int .i64 a2_1]) (T := 30) (f := fun b => .pointer (some ⟨b, 0, none⟩)) rfl (by go_simp <;> rfl) ?_
 intro b5 w6 hu lb hb5
 simp only[Act.put,nm1,nm2,nm3]
 have lbb5 := Aside0.mk lb
 have ltb5 := Aside0.mk hb5.lt
 clear lb
 have hu7 := Aside0.mk hu
 clear hu
 refine step_new (cs := [.int .i64 0, .int .i64 0]) (T := 30) (f := fun b => .pointer (some ⟨b, 0, none⟩)) rfl (by go_simp <;> rfl) ?_
 intro b8 w9 hu lb hb8
 simp only[Act.put,nm1,nm2,nm3]
 have lbb8 := Aside0.mk lb
 have ltb8 := Aside0.mk hb8.lt
 clear lb
 have hu10 := Aside0.mk hu
 clear hu
 refine wpList_nil (hK1 _ _ ?_)
 refine wp_seq_k fun K11 hK11=>?_
 refine' wp_region_up 15 [Slot.det _, Slot.det _, Slot.det _, Slot.det _, Slot.det _, Slot.det _, Slot.det (.int .i64 t12), Slot.det _, Slot.det _, Slot.det _, Slot.det _, Slot.det _, Slot.det _, Slot.det (.int .i64 t14), Slot.det _] (by kernel_rfl) (by kernel_rfl) ?main
 case main =>
  simp only [List.take_succ_cons, List.take_zero]
  refine wpK_ops rfl (fun w1 hu => ?_) ?_
  · clear hu
    go_simp
    first | done | rfl
  simp only[Act.put,nm1,nm2,nm3]
  refine wpK_ops rfl (fun w1 hu => ?_) ?_
  · clear hu
    go_simp
    first | done | rfl
  simp only[Act.put,nm1,nm2,nm3]
  refine wpK_ops rfl (fun w1 hu => ?_) ?_
  · have cl0 := ((hb2.up (hu7.out.trans hu10.out)).up ((Up.refl _).drew.trans hu)).cell (o := 0) rfl
    go_simp
    first | done | rfl
  simp only[Act.put,nm1,nm2,nm3]
  refine wpK_ops rfl (fun w1 hu => ?_) ?_
  · clear hu
    go_simp
    first | done | rfl
  simp only[Act.put,nm1,nm2,nm3]
  refine wpK_ops rfl (fun w1 hu => ?_) ?_
  · have cl0 := ((hb5.up hu10.out).up ((Up.refl _).drew.trans hu)).cell (o := 0) rfl
    go_simp
    first | done | rfl
  simp only[Act.put,nm1,nm2,nm3]
  refine wpK_ops rfl (fun w1 hu => ?_) ?_
  · clear hu
    go_simp
    first | done | rfl
  simp only[Act.put,nm1,nm2,nm3]
  refine wpK_ops rfl (fun w1 hu => ?_) ?_
  · have hcl := (impl_rest.calls K a0 (wrap64 (a1_0 - a2_0)) t12 w1  A13.out)
    clear hu
    replace hcl := Aside0.mk hcl
    go_simp
    exact hcl.out
  simp only[Act.put,nm1,nm2,nm3]
  refine wpK_ops rfl (fun w1 hu => ?_) ?_
  · clear hu
    go_simp
    first | done | rfl
  simp only[Act.put,nm1,nm2,nm3]
  refine wpK_ops rfl (fun w1 hu => ?_) ?_
  · clear hu
    go_simp
    first | done | rfl
  simp only[Act.put,nm1,nm2,nm3]
  refine wpK_ops rfl (fun w1 hu => ?_) ?_
  · have cl0 := ((hb2.up (hu7.out.trans hu10.out)).up ((Up.refl _).drew.trans hu)).cell (o := 1) rfl
    go_simp
    first | done | rfl
  simp only[Act.put,nm1,nm2,nm3]
  refine wpK_ops rfl (fun w1 hu => ?_) ?_
  · clear hu
    go_simp
    first | done | rfl
  simp only[Act.put,nm1,nm2,nm3]
  refine wpK_ops rfl (fun w1 hu => ?_) ?_
  · have cl0 := ((hb5.up hu10.out).up ((Up.refl _).drew.trans hu)).cell (o := 1) rfl
    go_simp
    first | done | rfl
  simp only[Act.put,nm1,nm2,nm3]
  refine wpK_ops rfl (fun w1 hu => ?_) ?_
  · clear hu
    go_simp
    first | done | rfl
  simp only[Act.put,nm1,nm2,nm3]
  refine wpK_ops rfl (fun w1 hu => ?_) ?_
  · have hcl := (impl_rest.calls K a0 (wrap64 (a1_1 - a2_1)) t14 w1  A15.out)
    clear hu
    replace hcl := Aside0.mk hcl
    go_simp
    exact hcl.out
  simp only[Act.put,nm1,nm2,nm3]
  refine wpK_ops rfl (fun w1 hu => ?_) ?_
  · clear hu
    go_simp
    first | done | rfl
  simp only[Act.put,nm1,nm2,nm3]
  refine wpK_nil ?_
  intro w16 hu hap
  simp only [List.drop_succ_cons, List.drop_zero]
  replace hu := (Up.refl _).drew.trans hu
  clear hap
  have hu17 := Aside0.mk hu
  clear hu
  have hB0 := (hb8.up hu17.out)
  have cl0 := hB0.cell (o := 0) rfl
  have fr0 := hB0.free 0
  have cl1 := hB0.cell (o := 1) rfl
  have fr1 := hB0.free 1
  refine step_store (b := b8) (cs' := [.int .i64 t12, .int .i64 t14]) (T := 30) (W' := ((w16.setCell ⟨b8, 0, none⟩ (.int .i64 t12)).setCell ⟨b8, 1, none⟩ (.int .i64 t14))) rfl rfl (by go_simp <;> rfl) (((Sto.refl _ _).setCell 0 _).setCell 1 _) (((hB0).setCell 0 _).setCell 1 _) ?_
  clear hB0 cl0 fr0 cl1 fr1
  intro w18 hs hb20
  have hs19 := Aside0.mk hs
  clear hs
  refine wpList_nil (hK11 _ _ ?_)
  refine wp_ret ?_
  refine hQf _ _ _ ?_
  have cr0 := hb20.cell (o := 0) rfl
  have cr1 := hb20.cell (o := 1) rfl
  exact bodyPost_ret (v := .agg #[.int .i64 t12, .int .i64 t14]) (by first|rfl|simp [results, Try.results171, go_sem, cr0, cr1]<;>rfl) rfl ⟨rfl, ((((hu4.out.trans hu7.out).trans hu10.out).trans hu17.out).sto (Nat.le_trans ((Nat.le_trans (hu4.out.size) hu7.out.size)) lbb8.out) hs19.out)⟩

set_option maxHeartbeats 40000000 in
set_option maxRecDepth 100000 in
theorem impl_product.calls (K : Nat) (a0 : Int) (a1 : Int) (a2_0 : Int) (a2_1 : Int) (a3_0 : Int) (a3_1 : Int) (r0 : Int) (w : World)  (h : impl_product.f K a0 a1 a2_0 a2_1 a3_0 a3_1 = some (r0)) :
    Calls Try.prog 172 #[.int .i64 a0, .int .i64 a1, .agg #[.int .i64 a2_0, .int .i64 a2_1], .agg #[.int .i64 a3_0, .int .i64 a3_1]] w fun e w' => e = .returned (.int .i64 r0) ∧ Up w w' := by
 have H : ((if (a1 == 0) = true then ((impl_rest.f K a0 (wrap64 ((wrap64 (a2_0 * a3_0)) + (wrap64 (a2_1 * a3_1))))).bind fun t13 => some t13) else (if (a1 == 1) = true then ((impl_rest.f K a0 (wrap64 ((wrap64 (a2_0 * a3_0)) - (wrap64 (a2_1 * a3_1))))).bind fun t20 => some t20) else ((impl_rest.f K a0 (wrap64 ((wrap64 (a2_0 * a3_1)) + (wrap64 (a2_1 * a3_0))))).bind fun t25 => some t25))) : Option (Int)) = some (r0) := h
 clear h
 go_enter Try.func172, Try.ntmps172
 refine wp_hide (fun Qf hQf => ?_)
 refine wp_seq_k fun K1 hK1=>wp_region_lit ?_
 refine step_new (cs := [.int .i64 a2_0, .int .i64 a2_1]) (T := 30) (f := fun b => .pointer (some ⟨b, 0, none⟩)) rfl (by go_simp <;> rfl) ?_
 intro b2 w3 hu lb hb2
 simp only[Act.put,nm1,nm2,nm3]
 have lbb2 := Aside0.mk lb
 have ltb2 := Aside0.mk hb2.lt
 clear lb
 have hu4 := Aside0.mk hu
 clear hu
 refine step_new (cs := [.int .i64 a3_0, .int .i64 a3_1]) (T := 30) (f := fun b => .pointer (some ⟨b, 0, none⟩)) rfl (by go_simp <;> rfl) ?_
 intro b5 w6 hu lb hb5
 simp only[Act.put,nm1,nm2,nm3]
 have lbb5 := Aside0.mk lb
 have ltb5 := Aside0.mk hb5.lt
 clear lb
 have hu7 := Aside0.mk hu
 clear hu
 refine wpp fun k h=>?_;go_simp;apply h;clear h k
 refine wpList_nil (hK1 _ _ ?_)
 refine wp_seq_k fun K8 hK8=>?_
 refine wp_seq_k fun K9 hK9=>wp_region_lit ?_
 refine wpp fun k h=>?_;go_simp;apply h;clear h k
 refine wpList_nil (hK9 _ _ ?_)
 refine wp_block ?_
 refine wp_seq_k fun K10 hK10=>wp_region_lit ?_
 iterate 2 (refine wpp fun k h=>?_;go_simp;apply h;clear h k)
 refine wpList_nil (hK10 _ _ ?_)
 by_cases c11 : (a1 == 0) = true
 ·
  rw [if_pos c11] at H
  have c11n : (a1 != 0) = false := by rw [bne, c11]; rfl
  obtain ⟨t13,A14,H⟩:=Option.bind_eq_some_iff.mp H
  replace A14:=Aside0.mk A14;try dsimp only at H
  obtain rfl := Option.some.inj H
  try simp only [c11, c11n, Bool.not_true, Bool.not_false]
  refine wp_cond_true rfl ?_
  refine wp_seq_k fun K12 hK12=>wp_region_lit ?_
  iterate 2 (refine wpp fun k h=>?_;go_simp;apply h;clear h k)
  have cl0 := (hb2.up hu7.out).cell (o := 0) rfl
  refine wpp fun k h=>?_;go_simp;apply h;clear h k
  clear cl0
  refine wpp fun k h=>?_;go_simp;apply h;clear h k
  have cl0 := hb5.cell (o := 0) rfl
  refine wpp fun k h=>?_;go_simp;apply h;clear h k
  clear cl0
  iterate 2 (refine wpp fun k h=>?_;go_simp;apply h;clear h k)
  have cl0 := (hb2.up hu7.out).cell (o := 1) rfl
  refine wpp fun k h=>?_;go_simp;apply h;clear h k
  clear cl0
  refine wpp fun k h=>?_;go_simp;apply h;clear h k
  have cl0 := hb5.cell (o := 1) rfl
  refine wpp fun k h=>?_;go_simp;apply h;clear h k
  clear cl0
  iterate 2 (refine wpp fun k h=>?_;go_simp;apply h;clear h k)
  refine step_call wn (by go_simp <;> rfl) (impl_rest.calls K a0 (wrap64 ((wrap64 (a2_0 * a3_0)) + (wrap64 (a2_1 * a3_1)))) t13 w6  A14.out) ?_
  rintro e w15 ⟨rfl, hu⟩
  have hu16 := Aside0.mk hu
  clear hu
  refine ⟨_, rfl, ?_⟩
  simp only[Act.put,nm1,nm2,nm3]
  refine wpp fun k h=>?_;go_simp;apply h;clear h k
  refine wpList_nil (hK12 _ _ ?_)
  refine wp_ret ?_
  refine hQf _ _ _ ?_
  exact bodyPost_ret (v := .int .i64 t13) (by first|rfl|simp [results, Try.results172, go_sem]<;>rfl) rfl ⟨rfl, ((hu4.out.trans hu7.out).trans hu16.out)⟩
 rw [if_neg c11] at H; replace c11 := Bool.eq_false_iff.mpr c11
 have c11n : (a1 != 0) = true := by rw [bne, c11]; rfl
 have c11p : ¬ a1 = 0 := fun e => by simp [e] at c11
 try simp only [c11, c11n, Bool.not_true, Bool.not_false]
 refine wp_cond_false rfl ?_
 refine wp_seq_k fun K17 hK17=>wp_region_lit ?_
 iterate 2 (refine wpp fun k h=>?_;go_simp;apply h;clear h k)
 refine wpList_nil (hK17 _ _ ?_)
 by_cases c18 : (a1 == 1) = true
 ·
  rw [if_pos c18] at H
  have c18n : (a1 != 1) = false := by rw [bne, c18]; rfl
  obtain ⟨t20,A21,H⟩:=Option.bind_eq_some_iff.mp H
  replace A21:=Aside0.mk A21;try dsimp only at H
  obtain rfl := Option.some.inj H
  try simp only [c18, c18n, Bool.not_true, Bool.not_false]
  refine wp_cond_true rfl ?_
  refine wp_seq_k fun K19 hK19=>wp_region_lit ?_
  iterate 2 (refine wpp fun k h=>?_;go_simp;apply h;clear h k)
  have cl0 := (hb2.up hu7.out).cell (o := 0) rfl
  refine wpp fun k h=>?_;go_simp;apply h;clear h k
  clear cl0
  refine wpp fun k h=>?_;go_simp;apply h;clear h k
  have cl0 := hb5.cell (o := 0) rfl
  refine wpp fun k h=>?_;go_simp;apply h;clear h k
  clear cl0
  iterate 2 (refine wpp fun k h=>?_;go_simp;apply h;clear h k)
  have cl0 := (hb2.up hu7.out).cell (o := 1) rfl
  refine wpp fun k h=>?_;go_simp;apply h;clear h k
  clear cl0
  refine wpp fun k h=>?_;go_simp;apply h;clear h k
  have cl0 := hb5.cell (o := 1) rfl
  refine wpp fun k h=>?_;go_simp;apply h;clear h k
  clear cl0
  iterate 2 (refine wpp fun k h=>?_;go_simp;apply h;clear h k)
  refine step_call wn (by go_simp <;> rfl) (impl_rest.calls K a0 (wrap64 ((wrap64 (a2_0 * a3_0)) - (wrap64 (a2_1 * a3_1)))) t20 w6  A21.out) ?_
  rintro e w22 ⟨rfl, hu⟩
  have hu23 := Aside0.mk hu
  clear hu
  refine ⟨_, rfl, ?_⟩
  simp only[Act.put,nm1,nm2,nm3]
  refine wpp fun k h=>?_;go_simp;apply h;clear h k
  refine wpList_nil (hK19 _ _ ?_)
  refine wp_ret ?_
  refine hQf _ _ _ ?_
  exact bodyPost_ret (v := .int .i64 t20) (by first|rfl|simp [results, Try.results172, go_sem]<;>rfl) rfl ⟨rfl, ((hu4.out.trans hu7.out).trans hu23.out)⟩
 rw [if_neg c18] at H; replace c18 := Bool.eq_false_iff.mpr c18
 have c18n : (a1 != 1) = true := by rw [bne, c18]; rfl
 have c18p : ¬ a1 = 1 := fun e => by simp [e] at c18
 obtain ⟨t25,A26,H⟩:=Option.bind_eq_some_iff.mp H
 replace A26:=Aside0.mk A26;try dsimp only at H
 obtain rfl := Option.some.inj H
 try simp only [c18, c18n, Bool.not_true, Bool.not_false]
 refine wp_cond_false rfl ?_
 refine wp_skip ?_
 refine hK8 _ _ ?_
 refine wp_seq_k fun K24 hK24=>wp_region_lit ?_
 iterate 2 (refine wpp fun k h=>?_;go_simp;apply h;clear h k)
 have cl0 := (hb2.up hu7.out).cell (o := 0) rfl
 refine wpp fun k h=>?_;go_simp;apply h;clear h k
 clear cl0
 refine wpp fun k h=>?_;go_simp;apply h;clear h k
 have cl0 := hb5.cell (o := 1) rfl
 refine wpp fun k h=>?_;go_simp;apply h;clear h k
 clear cl0
 iterate 2 (refine wpp fun k h=>?_;go_simp;apply h;clear h k)
 have cl0 := (hb2.up hu7.out).cell (o := 1) rfl
 refine wpp fun k h=>?_;go_simp;apply h;clear h k
 clear cl0
 refine wpp fun k h=>?_;go_simp;apply h;clear h k
 have cl0 := hb5.cell (o := 0) rfl
 refine wpp fun k h=>?_;go_simp;apply h;clear h k
 clear cl0
 iterate 2 (refine wpp fun k h=>?_;go_simp;apply h;clear h k)
 refine step_call wn (by go_simp <;> rfl) (impl_rest.calls K a0 (wrap64 ((wrap64 (a2_0 * a3_1)) + (wrap64 (a2_1 * a3_0)))) t25 w6  A26.out) ?_
 rintro e w27 ⟨rfl, hu⟩
 have hu28 := Aside0.mk hu
 clear hu
 refine ⟨_, rfl, ?_⟩
 simp only[Act.put,nm1,nm2,nm3]
 refine wpp fun k h=>?_;go_simp;apply h;clear h k
 refine wpList_nil (hK24 _ _ ?_)
 refine wp_ret ?_
 refine hQf _ _ _ ?_
 exact bodyPost_ret (v := .int .i64 t25) (by first|rfl|simp [results, Try.results172, go_sem]<;>rfl) rfl ⟨rfl, ((hu4.out.trans hu7.out).trans hu28.out)⟩

set_option maxHeartbeats 40000000 in
set_option maxRecDepth 100000 in
theorem impl_quadrance.calls (K : Nat) (a0 : Int) (a1 : Int) (a2_0 : Int) (a2_1 : Int) (a3_0 : Int) (a3_1 : Int) (r0 : Int) (w : World)  (h : impl_quadrance.f K a0 a1 a2_0 a2_1 a3_0 a3_1 = some (r0)) :
    Calls Try.prog 71 #[.int .i64 a0, .int .i64 a1, .agg #[.int .i64 a2_0, .int .i64 a2_1], .agg #[.int .i64 a3_0, .int .i64 a3_1]] w fun e w' => e = .returned (.int .i64 r0) ∧ Up w w' := by
 have H : (((impl_less.f K a0 a2_0 a2_1 a3_0 a3_1).bind fun (t9, t10) => ((impl_product.f K a0 a1 t9 t10 t9 t10).bind fun t21 => some t21)) : Option (Int)) = some (r0) := h
 clear h
 obtain ⟨⟨t9, t10⟩,A11,H⟩:=Option.bind_eq_some_iff.mp H
 replace A11:=Aside0.mk A11;try dsimp only at H
 obtain ⟨t21,A22,H⟩:=Option.bind_eq_some_iff.mp H
 replace A22:=Aside0.mk A22;try dsimp only at H
 obtain rfl := Option.some.inj H
 go_enter Try.func71, Try.ntmps71
 refine wp_hide (fun Qf hQf => ?_)
 refine wp_seq_k fun K1 hK1=>wp_region_lit ?_
 refine step_new (cs := [.int .i64 a2_0, .int .i64 a2_1]) (T := 30) (f := fun b => .pointer (some ⟨b, 0, none⟩)) rfl (by go_simp <;> rfl) ?_
 intro b2 w3 hu lb hb2
 simp only[Act.put,nm1,nm2,nm3]
 have lbb2 := Aside0.mk lb
 have ltb2 := Aside0.mk hb2.lt
 clear lb
 have hu4 := Aside0.mk hu
 clear hu
 refine step_new (cs := [.int .i64 a3_0, .int .i64 a3_1]) (T := 30) (f := fun b => .pointer (some ⟨b, 0, none⟩)) rfl (by go_simp <;> rfl) ?_
 intro b5 w6 hu lb hb5
 simp only[Act.put,nm1,nm2,nm3]
 have lbb5 := Aside0.mk lb
 have ltb5 := Aside0.mk hb5.lt
 clear lb
 have hu7 := Aside0.mk hu
 clear hu
 refine wpp fun k h=>?_;go_simp;apply h;clear h k
 refine wpList_nil (hK1 _ _ ?_)
 refine wp_seq_k fun K8 hK8=>wp_region_lit ?_
 refine wpp fun k h=>?_;go_simp;apply h;clear h k
 have cl0 := (hb2.up hu7.out).cell (o := 0) rfl
 have cl1 := (hb2.up hu7.out).cell (o := 1) rfl
 refine wpp fun k h=>?_;go_simp;apply h;clear h k
 clear cl0 cl1
 have cl0 := hb5.cell (o := 0) rfl
 have cl1 := hb5.cell (o := 1) rfl
 refine wpp fun k h=>?_;go_simp;apply h;clear h k
 clear cl0 cl1
 refine step_call wn (by go_simp <;> rfl) (impl_less.calls K a0 a2_0 a2_1 a3_0 a3_1 t9 t10 w6  A11.out) ?_
 rintro e w12 ⟨rfl, hu⟩
 have hu13 := Aside0.mk hu
 clear hu
 refine ⟨_, rfl, ?_⟩
 simp only[Act.put,nm1,nm2,nm3]
 refine step_new (cs := [.int .i64 0, .int .i64 0]) (T := 30) (f := fun b => .pointer (some ⟨b, 0, none⟩)) rfl (by go_simp <;> rfl) ?_
 intro b14 w15 hu lb hb14
 simp only[Act.put,nm1,nm2,nm3]
 have lbb14 := Aside0.mk lb
 have ltb14 := Aside0.mk hb14.lt
 clear lb
 have hu16 := Aside0.mk hu
 clear hu
 have hB0 := hb14
 have cl0 := hB0.cell (o := 0) rfl
 have fr0 := hB0.free 0
 have cl1 := hB0.cell (o := 1) rfl
 have fr1 := hB0.free 1
 refine step_store (b := b14) (cs' := [.int .i64 t9, .int .i64 t10]) (T := 30) (W' := ((w15.setCell ⟨b14, 0, none⟩ (.int .i64 t9)).setCell ⟨b14, 1, none⟩ (.int .i64 t10))) rfl rfl (by go_simp <;> rfl) (((Sto.refl _ _).setCell 0 _).setCell 1 _) (((hB0).setCell 0 _).setCell 1 _) ?_
 clear hB0 cl0 fr0 cl1 fr1
 intro w17 hs hb19
 have hs18 := Aside0.mk hs
 clear hs
 refine wpList_nil (hK8 _ _ ?_)
 refine wp_seq_k fun K20 hK20=>wp_region_lit ?_
 iterate 2 (refine wpp fun k h=>?_;go_simp;apply h;clear h k)
 have cl0 := hb19.cell (o := 0) rfl
 have cl1 := hb19.cell (o := 1) rfl
 refine wpp fun k h=>?_;go_simp;apply h;clear h k
 clear cl0 cl1
 have cl0 := hb19.cell (o := 0) rfl
 have cl1 := hb19.cell (o := 1) rfl
 refine wpp fun k h=>?_;go_simp;apply h;clear h k
 clear cl0 cl1
 refine step_call wn (by go_simp <;> rfl) (impl_product.calls K a0 a1 t9 t10 t9 t10 t21 w17  A22.out) ?_
 rintro e w23 ⟨rfl, hu⟩
 have hu24 := Aside0.mk hu
 clear hu
 refine ⟨_, rfl, ?_⟩
 simp only[Act.put,nm1,nm2,nm3]
 refine wpp fun k h=>?_;go_simp;apply h;clear h k
 refine wpList_nil (hK20 _ _ ?_)
 refine wp_ret ?_
 refine hQf _ _ _ ?_
 exact bodyPost_ret (v := .int .i64 t21) (by first|rfl|simp [results, Try.results71, go_sem]<;>rfl) rfl ⟨rfl, (((((hu4.out.trans hu7.out).trans hu13.out).trans hu16.out).sto (Nat.le_trans ((Nat.le_trans ((Nat.le_trans (hu4.out.size) hu7.out.size)) hu13.out.size)) lbb14.out) hs18.out).trans hu24.out)⟩

set_option maxHeartbeats 40000000 in
set_option maxRecDepth 100000 in
theorem impl_power.calls (K : Nat) (a0 : Int) (a1 : Int) (a2_0 : Int) (a2_1 : Int) (a2_2 : Int) (a3_0 : Int) (a3_1 : Int) (r0 : Int) (w : World)  (h : impl_power.f K a0 a1 a2_0 a2_1 a2_2 a3_0 a3_1 = some (r0)) :
    Calls Try.prog 145 #[.int .i64 a0, .int .i64 a1, .agg #[.int .i64 a2_0, .int .i64 a2_1, .int .i64 a2_2], .agg #[.int .i64 a3_0, .int .i64 a3_1]] w fun e w' => e = .returned (.int .i64 r0) ∧ Up w w' := by
 have H : (((impl_quadrance.f K a0 a1 a2_0 a2_1 a3_0 a3_1).bind fun t9 => ((impl_rest.f K a0 (wrap64 (t9 - a2_2))).bind fun t11 => some t11)) : Option (Int)) = some (r0) := h
 clear h
 obtain ⟨t9,A10,H⟩:=Option.bind_eq_some_iff.mp H
 replace A10:=Aside0.mk A10;try dsimp only at H
 obtain ⟨t11,A12,H⟩:=Option.bind_eq_some_iff.mp H
 replace A12:=Aside0.mk A12;try dsimp only at H
 obtain rfl := Option.some.inj H
 go_enter Try.func145, Try.ntmps145
 refine wp_hide (fun Qf hQf => ?_)
 refine wp_seq_k fun K1 hK1=>wp_region_lit ?_
 refine step_new (cs := [.int .i64 a2_0, .int .i64 a2_1, .int .i64 a2_2]) (T := 71) (f := fun b => .pointer (some ⟨b, 0, none⟩)) rfl (by go_simp <;> rfl) ?_
 intro b2 w3 hu lb hb2
 simp only[Act.put,nm1,nm2,nm3]
 have lbb2 := Aside0.mk lb
 have ltb2 := Aside0.mk hb2.lt
 clear lb
 have hu4 := Aside0.mk hu
 clear hu
 refine step_new (cs := [.int .i64 a3_0, .int .i64 a3_1]) (T := 30) (f := fun b => .pointer (some ⟨b, 0, none⟩)) rfl (by go_simp <;> rfl) ?_
 intro b5 w6 hu lb hb5
 simp only[Act.put,nm1,nm2,nm3]
 have lbb5 := Aside0.mk lb
 have ltb5 := Aside0.mk hb5.lt
 clear lb
 have hu7 := Aside0.mk hu
 clear hu
 refine wpp fun k h=>?_;go_simp;apply h;clear h k
 refine wpList_nil (hK1 _ _ ?_)
 refine wp_seq_k fun K8 hK8=>?_
 refine' wp_region_up 11 [Slot.det _, Slot.det _, Slot.det _, Slot.det _, Slot.det _, Slot.det _, Slot.det (.int .i64 t9), Slot.det _, Slot.det _, Slot.det _, Slot.det (.int .i64 t11)] (by kernel_rfl) (by kernel_rfl) ?main
 case main =>
  simp only [List.take_succ_cons, List.take_zero]
  refine wpK_ops rfl (fun w1 hu => ?_) ?_
  · clear hu
    go_simp
    first | done | rfl
  simp only[Act.put,nm1,nm2,nm3]
  refine wpK_ops rfl (fun w1 hu => ?_) ?_
  · clear hu
    go_simp
    first | done | rfl
  simp only[Act.put,nm1,nm2,nm3]
  refine wpK_ops rfl (fun w1 hu => ?_) ?_
  · clear hu
    go_simp
    first | done | rfl
  simp only[Act.put,nm1,nm2,nm3]
  refine wpK_ops rfl (fun w1 hu => ?_) ?_
  · clear hu
    go_simp
    first | done | rfl
  simp only[Act.put,nm1,nm2,nm3]
  refine wpK_ops rfl (fun w1 hu => ?_) ?_
  · have cl0 := ((hb2.up hu7.out).up ((Up.refl _).drew.trans hu)).cell (o := 0) rfl
    have cl1 := ((hb2.up hu7.out).up ((Up.refl _).drew.trans hu)).cell (o := 1) rfl
    go_simp
    first | done | rfl
  simp only[Act.put,nm1,nm2,nm3]
  refine wpK_ops rfl (fun w1 hu => ?_) ?_
  · have cl0 := (hb5.up ((Up.refl _).drew.trans hu)).cell (o := 0) rfl
    have cl1 := (hb5.up ((Up.refl _).drew.trans hu)).cell (o := 1) rfl
    go_simp
    first | done | rfl
  simp only[Act.put,nm1,nm2,nm3]
  refine wpK_ops rfl (fun w1 hu => ?_) ?_
  · have hcl := (impl_quadrance.calls K a0 a1 a2_0 a2_1 a3_0 a3_1 t9 w1  A10.out)
    clear hu
    replace hcl := Aside0.mk hcl
    go_simp
    exact hcl.out
  simp only[Act.put,nm1,nm2,nm3]
  refine wpK_ops rfl (fun w1 hu => ?_) ?_
  · clear hu
    go_simp
    first | done | rfl
  simp only[Act.put,nm1,nm2,nm3]
  refine wpK_ops rfl (fun w1 hu => ?_) ?_
  · have cl0 := ((hb2.up hu7.out).up ((Up.refl _).drew.trans hu)).cell (o := 2) rfl
    go_simp
    first | done | rfl
  simp only[Act.put,nm1,nm2,nm3]
  refine wpK_ops rfl (fun w1 hu => ?_) ?_
  · clear hu
    go_simp
    first | done | rfl
  simp only[Act.put,nm1,nm2,nm3]
  refine wpK_ops rfl (fun w1 hu => ?_) ?_
  · have hcl := (impl_rest.calls K a0 (wrap64 (t9 - a2_2)) t11 w1  A12.out)
    clear hu
    replace hcl := Aside0.mk hcl
    go_simp
    exact hcl.out
  simp only[Act.put,nm1,nm2,nm3]
  refine wpK_nil ?_
  intro w13 hu hap
  simp only [List.drop_succ_cons, List.drop_zero]
  replace hu := (Up.refl _).drew.trans hu
  clear hap
  have hu14 := Aside0.mk hu
  clear hu
  refine wpp fun k h=>?_;go_simp;apply h;clear h k
  refine wpList_nil (hK8 _ _ ?_)
  refine wp_ret ?_
  refine hQf _ _ _ ?_
  exact bodyPost_ret (v := .int .i64 t11) (by first|rfl|simp [results, Try.results145, go_sem]<;>rfl) rfl ⟨rfl, ((hu4.out.trans hu7.out).trans hu14.out)⟩

set_option maxHeartbeats 40000000 in
set_option maxRecDepth 100000 in
theorem impl_RadicalLine_2.calls (K : Nat) (a0_0 : Int) (a0_1 : Int) (bf0 : Nat) (f0_0 : Int) (bf1 : Nat) (f1_0 : Int) (bf2 : Nat) (f2_0 : Int) (f2_1 : Int) (f2_2 : Int) (bf3 : Nat) (f3_0 : Int) (f3_1 : Int) (f3_2 : Int) (r0 : Int) (w : World) (hf0 : Blk w bf0 [.int .i64 f0_0] 2) (hf1 : Blk w bf1 [.int .i64 f1_0] 2) (hf2 : Blk w bf2 [.int .i64 f2_0, .int .i64 f2_1, .int .i64 f2_2] 71) (hf3 : Blk w bf3 [.int .i64 f3_0, .int .i64 f3_1, .int .i64 f3_2] 71) (h : impl_RadicalLine_2.f K a0_0 a0_1 f0_0 f1_0 f2_0 f2_1 f2_2 f3_0 f3_1 f3_2 = some (r0)) :
    Calls Try.prog 144 #[.agg #[.int .i64 a0_0, .int .i64 a0_1], .pointer (some ⟨bf0, 0, none⟩), .pointer (some ⟨bf1, 0, none⟩), .pointer (some ⟨bf2, 0, none⟩), .pointer (some ⟨bf3, 0, none⟩)] w fun e w' => e = .returned (.int .i64 r0) ∧ Up w w' := by
 have H : (((impl_power.f K f0_0 f1_0 f2_0 f2_1 f2_2 a0_0 a0_1).bind fun t6 => ((impl_power.f K f0_0 f1_0 f3_0 f3_1 f3_2 a0_0 a0_1).bind fun t8 => ((impl_rest.f K f0_0 (wrap64 (t6 - t8))).bind fun t10 => some t10))) : Option (Int)) = some (r0) := h
 clear h
 obtain ⟨t6,A7,H⟩:=Option.bind_eq_some_iff.mp H
 replace A7:=Aside0.mk A7;try dsimp only at H
 obtain ⟨t8,A9,H⟩:=Option.bind_eq_some_iff.mp H
 replace A9:=Aside0.mk A9;try dsimp only at H
 obtain ⟨t10,A11,H⟩:=Option.bind_eq_some_iff.mp H
 replace A11:=Aside0.mk A11;try dsimp only at H
 obtain rfl := Option.some.inj H
 have ltbf0 := Aside0.mk hf0.lt
 have ltbf1 := Aside0.mk hf1.lt
 have ltbf2 := Aside0.mk hf2.lt
 have ltbf3 := Aside0.mk hf3.lt
 go_enter Try.func144, Try.ntmps144
 refine wp_hide (fun Qf hQf => ?_)
 refine wp_seq_k fun K1 hK1=>wp_region_lit ?_
 refine step_new (cs := [.int .i64 a0_0, .int .i64 a0_1]) (T := 30) (f := fun b => .pointer (some ⟨b, 0, none⟩)) rfl (by go_simp <;> rfl) ?_
 intro b2 w3 hu lb hb2
 simp only[Act.put,nm1,nm2,nm3]
 have lbb2 := Aside0.mk lb
 have ltb2 := Aside0.mk hb2.lt
 clear lb
 have hu4 := Aside0.mk hu
 clear hu
 refine wpp fun k h=>?_;go_simp;apply h;clear h k
 refine wpList_nil (hK1 _ _ ?_)
 refine wp_seq_k fun K5 hK5=>?_
 refine' wp_region_up 13 [Slot.det _, Slot.det _, Slot.det _, Slot.det _, Slot.det _, Slot.det (.int .i64 t6), Slot.det _, Slot.det _, Slot.det _, Slot.det _, Slot.det (.int .i64 t8), Slot.det _, Slot.det (.int .i64 t10)] (by kernel_rfl) (by kernel_rfl) ?main
 case main =>
  simp only [List.take_succ_cons, List.take_zero]
  refine wpK_ops rfl (fun w1 hu => ?_) ?_
  · have cl0 := ((hf0.up hu4.out).up ((Up.refl _).drew.trans hu)).cell (o := 0) rfl
    go_simp
    first | done | rfl
  simp only[Act.put,nm1,nm2,nm3]
  refine wpK_ops rfl (fun w1 hu => ?_) ?_
  · have cl0 := ((hf0.up hu4.out).up ((Up.refl _).drew.trans hu)).cell (o := 0) rfl
    go_simp
    first | done | rfl
  simp only[Act.put,nm1,nm2,nm3]
  refine wpK_ops rfl (fun w1 hu => ?_) ?_
  · have cl0 := ((hf1.up hu4.out).up ((Up.refl _).drew.trans hu)).cell (o := 0) rfl
    go_simp
    first | done | rfl
  simp only[Act.put,nm1,nm2,nm3]
  refine wpK_ops rfl (fun w1 hu => ?_) ?_
  · have cl0 := ((hf2.up hu4.out).up ((Up.refl _).drew.trans hu)).cell (o := 0) rfl
    have cl1 := ((hf2.up hu4.out).up ((Up.refl _).drew.trans hu)).cell (o := 1) rfl
    have cl2 := ((hf2.up hu4.out).up ((Up.refl _).drew.trans hu)).cell (o := 2) rfl
    go_simp
    first | done | rfl
  simp only[Act.put,nm1,nm2,nm3]
  refine wpK_ops rfl (fun w1 hu => ?_) ?_
  · have cl0 := (hb2.up ((Up.refl _).drew.trans hu)).cell (o := 0) rfl
    have cl1 := (hb2.up ((Up.refl _).drew.trans hu)).cell (o := 1) rfl
    go_simp
    first | done | rfl
  simp only[Act.put,nm1,nm2,nm3]
  refine wpK_ops rfl (fun w1 hu => ?_) ?_
  · have hcl := (impl_power.calls K f0_0 f1_0 f2_0 f2_1 f2_2 a0_0 a0_1 t6 w1  A7.out)
    clear hu
    replace hcl := Aside0.mk hcl
    go_simp
    exact hcl.out
  simp only[Act.put,nm1,nm2,nm3]
  refine wpK_ops rfl (fun w1 hu => ?_) ?_
  · have cl0 := ((hf0.up hu4.out).up ((Up.refl _).drew.trans hu)).cell (o := 0) rfl
    go_simp
    first | done | rfl
  simp only[Act.put,nm1,nm2,nm3]
  refine wpK_ops rfl (fun w1 hu => ?_) ?_
  · have cl0 := ((hf1.up hu4.out).up ((Up.refl _).drew.trans hu)).cell (o := 0) rfl
    go_simp
    first | done | rfl
  simp only[Act.put,nm1,nm2,nm3]
  refine wpK_ops rfl (fun w1 hu => ?_) ?_
  · have cl0 := ((hf3.up hu4.out).up ((Up.refl _).drew.trans hu)).cell (o := 0) rfl
    have cl1 := ((hf3.up hu4.out).up ((Up.refl _).drew.trans hu)).cell (o := 1) rfl
    have cl2 := ((hf3.up hu4.out).up ((Up.refl _).drew.trans hu)).cell (o := 2) rfl
    go_simp
    first | done | rfl
  simp only[Act.put,nm1,nm2,nm3]
  refine wpK_ops rfl (fun w1 hu => ?_) ?_
  · have cl0 := (hb2.up ((Up.refl _).drew.trans hu)).cell (o := 0) rfl
    have cl1 := (hb2.up ((Up.refl _).drew.trans hu)).cell (o := 1) rfl
    go_simp
    first | done | rfl
  simp only[Act.put,nm1,nm2,nm3]
  refine wpK_ops rfl (fun w1 hu => ?_) ?_
  · have hcl := (impl_power.calls K f0_0 f1_0 f3_0 f3_1 f3_2 a0_0 a0_1 t8 w1  A9.out)
    clear hu
    replace hcl := Aside0.mk hcl
    go_simp
    exact hcl.out
  simp only[Act.put,nm1,nm2,nm3]
  refine wpK_ops rfl (fun w1 hu => ?_) ?_
  · clear hu
    go_simp
    first | done | rfl
  simp only[Act.put,nm1,nm2,nm3]
  refine wpK_ops rfl (fun w1 hu => ?_) ?_
  · have hcl := (impl_rest.calls K f0_0 (wrap64 (t6 - t8)) t10 w1  A11.out)
    clear hu
    replace hcl := Aside0.mk hcl
    go_simp
    exact hcl.out
  simp only[Act.put,nm1,nm2,nm3]
  refine wpK_nil ?_
  intro w12 hu hap
  simp only [List.drop_succ_cons, List.drop_zero]
  replace hu := (Up.refl _).drew.trans hu
  clear hap
  have hu13 := Aside0.mk hu
  clear hu
  refine wpp fun k h=>?_;go_simp;apply h;clear h k
  refine wpList_nil (hK5 _ _ ?_)
  refine wp_ret ?_
  refine hQf _ _ _ ?_
  exact bodyPost_ret (v := .int .i64 t10) (by first|rfl|simp [results, Try.results144, go_sem]<;>rfl) rfl ⟨rfl, (hu4.out.trans hu13.out)⟩

set_option maxHeartbeats 40000000 in
set_option maxRecDepth 100000 in
theorem impl_inverse.calls (K : Nat) (a0 : Int) (a1 : Int) (r0 : Int) (w : World)  (h : impl_inverse.f K a0 a1 = some (r0)) :
    Calls Try.prog 187 #[.int .i64 a0, .int .i64 a1] w fun e w' => e = .returned (.int .i64 r0) ∧ Up w w' := by
 have H : ((impl_inverse.l0 K a0 a1 K 1) : Option (Int)) = some (r0) := h
 clear h
 go_enter Try.func187, Try.ntmps187
 refine wp_hide (fun Qf hQf => ?_)
 refine wp_seq_k fun K1 hK1=>wp_region_lit ?_
 refine wpp fun k h=>?_;go_simp;apply h;clear h k
 refine wpList_nil (hK1 _ _ ?_)
 refine wp_seq_k fun K2 hK2=>?_
 refine wp_seq_k fun K3 hK3=>wp_region_lit ?_
 refine wpp fun k h=>?_;go_simp;apply h;clear h k
 refine wpList_nil (hK3 _ _ ?_)
 refine wp_block ?_
 have HL8 := Aside0.mk H
 clear H
 go_loopg [5] K (fun kq v5 w' => ∃ (x4 : Int), v5 = .int .i64 x4 ∧ Aside0 (impl_inverse.l0 K a0 a1 kq x4 = some (r0)) ∧ Aside0 (kq ≤ K) ∧ Aside0 (Up w w') ∧ Aside0 (w.heap.size ≤ w'.heap.size))
 case atStart => exact ⟨1, (by first | rfl | simp), HL8, ⟨Nat.le_refl _⟩, ⟨(Up.refl _)⟩, ⟨Nat.le_refl _⟩⟩
 case round =>
  rename_i J11 K12 hJ11 hK12
  obtain ⟨x4, rfl, HL13, hk10, hu6, hz7⟩ := hrel
  obtain ⟨w5, rfl⟩ : ∃ wo : World, wo = wr := ⟨_, rfl⟩
  obtain ⟨k9, rfl⟩ | rfl : (∃ k, gk = k + 1) ∨ gk = 0 := by rcases gk with _ | k; exact .inr rfl; exact .inl ⟨k, rfl⟩
  case inr => exact absurd HL13.out (by simp [impl_inverse.l0])
  have H := HL13.out
  clear HL13
  rw [impl_inverse.l0] at H
  refine wp_seq_k fun K14 hK14=>?_
  refine wp_seq_k fun K15 hK15=>wp_region_lit ?_
  iterate 3 (refine wpp fun k h=>?_;go_simp;apply h;clear h k)
  refine wpList_nil (hK15 _ _ ?_)
  by_cases c16 : (decide (x4 < a0)) = true
  rotate_left
  ·
   rw [if_neg c16] at H; replace c16 := Bool.eq_false_iff.mpr c16
   obtain rfl := Option.some.inj H
   try simp only [c16, Bool.not_true, Bool.not_false]
   refine wp_cond_false rfl ?_
   refine wp_exit ?_
   refine hK2 _ _ ?_
   refine wp_seq_k fun K23 hK23=>wp_region_lit ?_
   refine wpp fun k h=>?_;go_simp;apply h;clear h k
   refine wpList_nil (hK23 _ _ ?_)
   refine wp_ret ?_
   refine hQf _ _ _ ?_
   exact bodyPost_ret (v := .int .i64 0) (by first|rfl|simp [results, Try.results187, go_sem]<;>rfl) rfl ⟨rfl, hu6.out⟩
  rw [if_pos c16] at H
  try simp only [c16, Bool.not_true, Bool.not_false]
  refine wp_cond_true rfl ?_
  refine wp_skip ?_
  refine hK14 _ _ ?_
  refine wp_seq_k fun K17 hK17=>?_
  refine wp_block ?_
  refine wp_seq_k fun K18 hK18=>wp_region_lit ?_
  iterate 4 (refine wpp fun k h=>?_;go_simp;apply h;clear h k)
  by_cases c19 : (a0 == 0) = true
  ·
   rw [if_pos c19] at H
   have c19n : (a0 != 0) = false := by rw [bne, c19]; rfl
   exact absurd H (by simp)
  rw [if_neg c19] at H; replace c19 := Bool.eq_false_iff.mpr c19
  have c19n : (a0 != 0) = true := by rw [bne, c19]; rfl
  have c19p : ¬ a0 = 0 := fun e => by simp [e] at c19
  try simp only [c19, c19n, Bool.not_true, Bool.not_false]
  iterate 2 (refine wpp fun k h=>?_;go_simp;apply h;clear h k)
  refine wpList_nil (hK18 _ _ ?_)
  by_cases c20 : ((Int.tmod (wrap64 (a1 * x4)) a0) == 1) = true
  ·
   rw [if_pos c20] at H
   have c20n : ((Int.tmod (wrap64 (a1 * x4)) a0) != 1) = false := by rw [bne, c20]; rfl
   obtain rfl := Option.some.inj H
   try simp only [c20, c20n, Bool.not_true, Bool.not_false]
   refine wp_cond_true rfl ?_
   refine wp_seq_k fun K21 hK21=>wp_region_lit ?_
   iterate 2 (refine wpp fun k h=>?_;go_simp;apply h;clear h k)
   refine wpList_nil (hK21 _ _ ?_)
   refine wp_ret ?_
   refine hQf _ _ _ ?_
   exact bodyPost_ret (v := .int .i64 x4) (by first|rfl|simp [results, Try.results187, go_sem]<;>rfl) rfl ⟨rfl, hu6.out⟩
  rw [if_neg c20] at H; replace c20 := Bool.eq_false_iff.mpr c20
  have c20n : ((Int.tmod (wrap64 (a1 * x4)) a0) != 1) = true := by rw [bne, c20]; rfl
  have c20p : ¬ (Int.tmod (wrap64 (a1 * x4)) a0) = 1 := fun e => by simp [e] at c20
  have HL22 := Aside0.mk H
  clear H
  try simp only [c20, c20n, Bool.not_true, Bool.not_false]
  refine wp_cond_false rfl ?_
  refine wp_skip ?_
  refine hK17 _ _ ?_
  refine wp_region_lit ?_
  iterate 3 (refine wpp fun k h=>?_;go_simp;apply h;clear h k)
  refine wpList_nil (hK12 _ _ ?_)
  go_roundg k9
  case measure => exact Nat.lt_succ_self _
  case rel => exact ⟨wrap64 (x4 + 1), (by first | rfl | simp), HL22, ⟨by have := hk10.out; omega⟩, ⟨hu6.out⟩, ⟨(Nat.le_trans (Nat.le_refl _) hz7.out)⟩⟩

set_option maxHeartbeats 40000000 in
set_option maxRecDepth 100000 in
theorem impl_divide.calls (K : Nat) (a0 : Int) (a1 : Int) (a2 : Int) (r0 : Int) (w : World)  (h : impl_divide.f K a0 a1 a2 = some (r0)) :
    Calls Try.prog 127 #[.int .i64 a0, .int .i64 a1, .int .i64 a2] w fun e w' => e = .returned (.int .i64 r0) ∧ Up w w' := by
 have H : (((impl_inverse.f K a0 a2).bind fun t3 => ((impl_rest.f K a0 (wrap64 (a1 * t3))).bind fun t7 => some t7)) : Option (Int)) = some (r0) := h
 clear h
 obtain ⟨t3,A4,H⟩:=Option.bind_eq_some_iff.mp H
 replace A4:=Aside0.mk A4;try dsimp only at H
 obtain ⟨t7,A8,H⟩:=Option.bind_eq_some_iff.mp H
 replace A8:=Aside0.mk A8;try dsimp only at H
 obtain rfl := Option.some.inj H
 go_enter Try.func127, Try.ntmps127
 refine wp_hide (fun Qf hQf => ?_)
 refine wp_seq_k fun K1 hK1=>wp_region_lit ?_
 refine wpp fun k h=>?_;go_simp;apply h;clear h k
 refine wpList_nil (hK1 _ _ ?_)
 refine wp_seq_k fun K2 hK2=>wp_region_lit ?_
 iterate 4 (refine wpp fun k h=>?_;go_simp;apply h;clear h k)
 refine step_call wn (by go_simp <;> rfl) (impl_inverse.calls K a0 a2 t3 w  A4.out) ?_
 rintro e w5 ⟨rfl, hu⟩
 have hu6 := Aside0.mk hu
 clear hu
 refine ⟨_, rfl, ?_⟩
 simp only[Act.put,nm1,nm2,nm3]
 refine wpp fun k h=>?_;go_simp;apply h;clear h k
 refine step_call wn (by go_simp <;> rfl) (impl_rest.calls K a0 (wrap64 (a1 * t3)) t7 w5  A8.out) ?_
 rintro e w9 ⟨rfl, hu⟩
 have hu10 := Aside0.mk hu
 clear hu
 refine ⟨_, rfl, ?_⟩
 simp only[Act.put,nm1,nm2,nm3]
 refine wpp fun k h=>?_;go_simp;apply h;clear h k
 refine wpList_nil (hK2 _ _ ?_)
 refine wp_ret ?_
 refine hQf _ _ _ ?_
 exact bodyPost_ret (v := .int .i64 t7) (by first|rfl|simp [results, Try.results127, go_sem]<;>rfl) rfl ⟨rfl, (hu6.out.trans hu10.out)⟩

set_option maxHeartbeats 40000000 in
set_option maxRecDepth 100000 in
theorem impl_makeLine.calls (K : Nat) (a0 : Int) (a1 : Int) (a2 : Int) (a3 : Int) (r0 : Int) (r1 : Int) (r2 : Int) (w : World)  (h : impl_makeLine.f K a0 a1 a2 a3 = some (r0, r1, r2)) :
    Calls Try.prog 74 #[.int .i64 a0, .int .i64 a1, .int .i64 a2, .int .i64 a3] w fun e w' => e = .returned (.agg #[.int .i64 r0, .int .i64 r1, .int .i64 r2]) ∧ Up w w' := by
 have H : (((impl_rest.f K a0 a1).bind fun t6 => ((impl_rest.f K a0 a2).bind fun t10 => ((impl_rest.f K a0 a3).bind fun t14 => (if (t6 == 0) = true then ((impl_divide.f K a0 t6 t10).bind fun t24 => ((impl_divide.f K a0 t10 t10).bind fun t28 => ((impl_divide.f K a0 t14 t10).bind fun t32 => some (t24, t28, t32)))) else ((impl_divide.f K a0 t6 t6).bind fun t40 => ((impl_divide.f K a0 t10 t6).bind fun t44 => ((impl_divide.f K a0 t14 t6).bind fun t48 => some (t40, t44, t48)))))))) : Option (Int × Int × Int)) = some (r0, r1, r2) := h
 clear h
 obtain ⟨t6,A7,H⟩:=Option.bind_eq_some_iff.mp H
 replace A7:=Aside0.mk A7;try dsimp only at H
 obtain ⟨t10,A11,H⟩:=Option.bind_eq_some_iff.mp H
 replace A11:=Aside0.mk A11;try dsimp only at H
 obtain ⟨t14,A15,H⟩:=Option.bind_eq_some_iff.mp H
 replace A15:=Aside0.mk A15;try dsimp only at H
 go_enter Try.func74, Try.ntmps74
 refine wp_hide (fun Qf hQf => ?_)
 refine wp_seq_k fun K1 hK1=>wp_region_lit ?_
 refine step_new (cs := [.int .i64 0, .int .i64 0, .int .i64 0]) (T := 34) (f := fun b => .pointer (some ⟨b, 0, none⟩)) rfl (by go_simp <;> rfl) ?_
 intro b2 w3 hu lb hb2
 simp only[Act.put,nm1,nm2,nm3]
 have lbb2 := Aside0.mk lb
 have ltb2 := Aside0.mk hb2.lt
 clear lb
 have hu4 := Aside0.mk hu
 clear hu
 refine wpList_nil (hK1 _ _ ?_)
 refine wp_seq_k fun K5 hK5=>wp_region_lit ?_
 iterate 2 (refine wpp fun k h=>?_;go_simp;apply h;clear h k)
 refine step_call wn (by go_simp <;> rfl) (impl_rest.calls K a0 a1 t6 w3  A7.out) ?_
 rintro e w8 ⟨rfl, hu⟩
 have hu9 := Aside0.mk hu
 clear hu
 refine ⟨_, rfl, ?_⟩
 simp only[Act.put,nm1,nm2,nm3]
 iterate 2 (refine wpp fun k h=>?_;go_simp;apply h;clear h k)
 refine step_call wn (by go_simp <;> rfl) (impl_rest.calls K a0 a2 t10 w8  A11.out) ?_
 rintro e w12 ⟨rfl, hu⟩
 have hu13 := Aside0.mk hu
 clear hu
 refine ⟨_, rfl, ?_⟩
 simp only[Act.put,nm1,nm2,nm3]
 iterate 2 (refine wpp fun k h=>?_;go_simp;apply h;clear h k)
 refine step_call wn (by go_simp <;> rfl) (impl_rest.calls K a0 a3 t14 w12  A15.out) ?_
 rintro e w16 ⟨rfl, hu⟩
 have hu17 := Aside0.mk hu
 clear hu
 refine ⟨_, rfl, ?_⟩
 simp only[Act.put,nm1,nm2,nm3]
 iterate 3 (refine wpp fun k h=>?_;go_simp;apply h;clear h k)
 refine wpList_nil (hK5 _ _ ?_)
 refine wp_seq_k fun K18 hK18=>wp_region_lit ?_
 iterate 2 (refine wpp fun k h=>?_;go_simp;apply h;clear h k)
 refine wpList_nil (hK18 _ _ ?_)
 refine wp_seq_k fun K19 hK19=>?_
 refine wp_seq_k fun K20 hK20=>wp_region_lit ?_
 iterate 2 (refine wpp fun k h=>?_;go_simp;apply h;clear h k)
 refine wpList_nil (hK20 _ _ ?_)
 have hm22 := Aside0.mk (((hu4.out.trans hu9.out).trans hu13.out).trans hu17.out)
 by_cases c21 : (t6 == 0) = true
 rotate_left
 ·
  rw [if_neg c21] at H; replace c21 := Bool.eq_false_iff.mpr c21
  have c21n : (t6 != 0) = true := by rw [bne, c21]; rfl
  have c21p : ¬ t6 = 0 := fun e => by simp [e] at c21
  obtain ⟨t40,A41,H⟩:=Option.bind_eq_some_iff.mp H
  replace A41:=Aside0.mk A41;try dsimp only at H
  obtain ⟨t44,A45,H⟩:=Option.bind_eq_some_iff.mp H
  replace A45:=Aside0.mk A45;try dsimp only at H
  obtain ⟨t48,A49,H⟩:=Option.bind_eq_some_iff.mp H
  replace A49:=Aside0.mk A49;try dsimp only at H
  simp only [Option.some.injEq, Prod.mk.injEq] at H
  obtain ⟨rfl, rfl, rfl⟩ := H
  try simp only [c21, c21n, Bool.not_true, Bool.not_false]
  refine wp_cond_false rfl ?_
  refine wp_skip ?_
  refine hK19 _ _ ?_
  refine wp_seq_k fun K39 hK39=>wp_region_lit ?_
  iterate 3 (refine wpp fun k h=>?_;go_simp;apply h;clear h k)
  refine step_call wn (by go_simp <;> rfl) (impl_divide.calls K a0 t6 t6 t40 w16  A41.out) ?_
  rintro e w42 ⟨rfl, hu⟩
  have hu43 := Aside0.mk hu
  clear hu
  refine ⟨_, rfl, ?_⟩
  simp only[Act.put,nm1,nm2,nm3]
  iterate 3 (refine wpp fun k h=>?_;go_simp;apply h;clear h k)
  refine step_call wn (by go_simp <;> rfl) (impl_divide.calls K a0 t10 t6 t44 w42  A45.out) ?_
  rintro e w46 ⟨rfl, hu⟩
  have hu47 := Aside0.mk hu
  clear hu
  refine ⟨_, rfl, ?_⟩
  simp only[Act.put,nm1,nm2,nm3]
  iterate 3 (refine wpp fun k h=>?_;go_simp;apply h;clear h k)
  refine step_call wn (by go_simp <;> rfl) (impl_divide.calls K a0 t14 t6 t48 w46  A49.out) ?_
  rintro e w50 ⟨rfl, hu⟩
  have hu51 := Aside0.mk hu
  clear hu
  refine ⟨_, rfl, ?_⟩
  simp only[Act.put,nm1,nm2,nm3]
  refine wpp fun k h=>?_;go_simp;apply h;clear h k
  have hB0 := (hb2.up (((((hu9.out.trans hu13.out).trans hu17.out).trans hu43.out).trans hu47.out).trans hu51.out))
  have cl0 := hB0.cell (o := 0) rfl
  have fr0 := hB0.free 0
  have cl1 := hB0.cell (o := 1) rfl
  have fr1 := hB0.free 1
  have cl2 := hB0.cell (o := 2) rfl
  have fr2 := hB0.free 2
  refine step_store (b := b2) (cs' := [.int .i64 t40, .int .i64 t44, .int .i64 t48]) (T := 34) (W' := (((w50.setCell ⟨b2, 0, none⟩ (.int .i64 t40)).setCell ⟨b2, 1, none⟩ (.int .i64 t44)).setCell ⟨b2, 2, none⟩ (.int .i64 t48))) rfl rfl (by go_simp <;> rfl) ((((Sto.refl _ _).setCell 0 _).setCell 1 _).setCell 2 _) ((((hB0).setCell 0 _).setCell 1 _).setCell 2 _) ?_
  clear hB0 cl0 fr0 cl1 fr1 cl2 fr2
  intro w52 hs hb54
  have hs53 := Aside0.mk hs
  clear hs
  refine wpList_nil (hK39 _ _ ?_)
  refine wp_ret ?_
  refine hQf _ _ _ ?_
  have cr0 := hb54.cell (o := 0) rfl
  have cr1 := hb54.cell (o := 1) rfl
  have cr2 := hb54.cell (o := 2) rfl
  exact bodyPost_ret (v := .agg #[.int .i64 t40, .int .i64 t44, .int .i64 t48]) (by first|rfl|simp [results, Try.results74, go_sem, cr0, cr1, cr2]<;>rfl) rfl ⟨rfl, ((((hm22.out.trans hu43.out).trans hu47.out).trans hu51.out).sto (Nat.le_trans (Nat.le_refl _) lbb2.out) hs53.out)⟩
 rw [if_pos c21] at H
 have c21n : (t6 != 0) = false := by rw [bne, c21]; rfl
 obtain ⟨t24,A25,H⟩:=Option.bind_eq_some_iff.mp H
 replace A25:=Aside0.mk A25;try dsimp only at H
 obtain ⟨t28,A29,H⟩:=Option.bind_eq_some_iff.mp H
 replace A29:=Aside0.mk A29;try dsimp only at H
 obtain ⟨t32,A33,H⟩:=Option.bind_eq_some_iff.mp H
 replace A33:=Aside0.mk A33;try dsimp only at H
 simp only [Option.some.injEq, Prod.mk.injEq] at H
 obtain ⟨rfl, rfl, rfl⟩ := H
 try simp only [c21, c21n, Bool.not_true, Bool.not_false]
 refine wp_cond_true rfl ?_
 refine wp_region_lit ?_
 iterate 2 (refine wpp fun k h=>?_;go_simp;apply h;clear h k)
 refine wpList_nil (hK19 _ _ ?_)
 refine wp_seq_k fun K23 hK23=>wp_region_lit ?_
 iterate 3 (refine wpp fun k h=>?_;go_simp;apply h;clear h k)
 refine step_call wn (by go_simp <;> rfl) (impl_divide.calls K a0 t6 t10 t24 w16  A25.out) ?_
 rintro e w26 ⟨rfl, hu⟩
 have hu27 := Aside0.mk hu
 clear hu
 refine ⟨_, rfl, ?_⟩
 simp only[Act.put,nm1,nm2,nm3]
 iterate 3 (refine wpp fun k h=>?_;go_simp;apply h;clear h k)
 refine step_call wn (by go_simp <;> rfl) (impl_divide.calls K a0 t10 t10 t28 w26  A29.out) ?_
 rintro e w30 ⟨rfl, hu⟩
 have hu31 := Aside0.mk hu
 clear hu
 refine ⟨_, rfl, ?_⟩
 simp only[Act.put,nm1,nm2,nm3]
 iterate 3 (refine wpp fun k h=>?_;go_simp;apply h;clear h k)
 refine step_call wn (by go_simp <;> rfl) (impl_divide.calls K a0 t14 t10 t32 w30  A33.out) ?_
 rintro e w34 ⟨rfl, hu⟩
 have hu35 := Aside0.mk hu
 clear hu
 refine ⟨_, rfl, ?_⟩
 simp only[Act.put,nm1,nm2,nm3]
 refine wpp fun k h=>?_;go_simp;apply h;clear h k
 have hB0 := (hb2.up (((((hu9.out.trans hu13.out).trans hu17.out).trans hu27.out).trans hu31.out).trans hu35.out))
 have cl0 := hB0.cell (o := 0) rfl
 have fr0 := hB0.free 0
 have cl1 := hB0.cell (o := 1) rfl
 have fr1 := hB0.free 1
 have cl2 := hB0.cell (o := 2) rfl
 have fr2 := hB0.free 2
 refine step_store (b := b2) (cs' := [.int .i64 t24, .int .i64 t28, .int .i64 t32]) (T := 34) (W' := (((w34.setCell ⟨b2, 0, none⟩ (.int .i64 t24)).setCell ⟨b2, 1, none⟩ (.int .i64 t28)).setCell ⟨b2, 2, none⟩ (.int .i64 t32))) rfl rfl (by go_simp <;> rfl) ((((Sto.refl _ _).setCell 0 _).setCell 1 _).setCell 2 _) ((((hB0).setCell 0 _).setCell 1 _).setCell 2 _) ?_
 clear hB0 cl0 fr0 cl1 fr1 cl2 fr2
 intro w36 hs hb38
 have hs37 := Aside0.mk hs
 clear hs
 refine wpList_nil (hK23 _ _ ?_)
 refine wp_ret ?_
 refine hQf _ _ _ ?_
 have cr0 := hb38.cell (o := 0) rfl
 have cr1 := hb38.cell (o := 1) rfl
 have cr2 := hb38.cell (o := 2) rfl
 exact bodyPost_ret (v := .agg #[.int .i64 t24, .int .i64 t28, .int .i64 t32]) (by first|rfl|simp [results, Try.results74, go_sem, cr0, cr1, cr2]<;>rfl) rfl ⟨rfl, ((((hm22.out.trans hu27.out).trans hu31.out).trans hu35.out).sto (Nat.le_trans (Nat.le_refl _) lbb2.out) hs37.out)⟩

set_option maxHeartbeats 40000000 in
set_option maxRecDepth 100000 in
theorem impl_RadicalLine.calls (K : Nat) (a0 : Int) (a1 : Int) (a2_0 : Int) (a2_1 : Int) (a2_2 : Int) (a3_0 : Int) (a3_1 : Int) (a3_2 : Int) (r0 : Int) (r1 : Int) (r2 : Int) (r3 : Int) (w : World)  (h : impl_RadicalLine.f K a0 a1 a2_0 a2_1 a2_2 a3_0 a3_1 a3_2 = some (r0, r1, r2, r3)) :
    Calls Try.prog 52 #[.int .i64 a0, .int .i64 a1, .agg #[.int .i64 a2_0, .int .i64 a2_1, .int .i64 a2_2], .agg #[.int .i64 a3_0, .int .i64 a3_1, .int .i64 a3_2]] w fun e w' => e = .returned (.tuple #[.agg #[.int .i64 r0, .int .i64 r1, .int .i64 r2], .int .i64 r3]) ∧ Up w w' := by
 have H : (((impl_asked__impl_RadicalLine_1.f K a0 a1 a0 a2_0 a2_1 a2_2 a3_0 a3_1 a3_2).bind fun t19 => (if (t19 == 0) = true then (if (a2_0 == a3_0 && a2_1 == a3_1) = true then some (0, 0, 0, 5) else ((impl_RadicalLine_2.f K 0 0 a0 a1 a2_0 a2_1 a2_2 a3_0 a3_1 a3_2).bind fun t39 => ((impl_RadicalLine_2.f K 1 0 a0 a1 a2_0 a2_1 a2_2 a3_0 a3_1 a3_2).bind fun t44 => ((impl_RadicalLine_2.f K 0 1 a0 a1 a2_0 a2_1 a2_2 a3_0 a3_1 a3_2).bind fun t46 => ((impl_makeLine.f K a0 (wrap64 (t44 - t39)) (wrap64 (t46 - t39)) t39).bind fun (t48, t49, t50) => some (t48, t49, t50, 0)))))) else some (0, 0, 0, t19))) : Option (Int × Int × Int × Int)) = some (r0, r1, r2, r3) := h
 clear h
 obtain ⟨t19,A20,H⟩:=Option.bind_eq_some_iff.mp H
 replace A20:=Aside0.mk A20;try dsimp only at H
 go_enter Try.func52, Try.ntmps52
 refine wp_hide (fun Qf hQf => ?_)
 refine wp_seq_k fun K1 hK1=>wp_region_lit ?_
 refine step_new (cs := [.int .i64 a0]) (T := 2) (f := fun b => .pointer (some ⟨b, 0, none⟩)) rfl (by go_simp <;> rfl) ?_
 intro b2 w3 hu lb hb2
 simp only[Act.put,nm1,nm2,nm3]
 have lbb2 := Aside0.mk lb
 have ltb2 := Aside0.mk hb2.lt
 clear lb
 have hu4 := Aside0.mk hu
 clear hu
 refine step_new (cs := [.int .i64 a1]) (T := 2) (f := fun b => .pointer (some ⟨b, 0, none⟩)) rfl (by go_simp <;> rfl) ?_
 intro b5 w6 hu lb hb5
 simp only[Act.put,nm1,nm2,nm3]
 have lbb5 := Aside0.mk lb
 have ltb5 := Aside0.mk hb5.lt
 clear lb
 have hu7 := Aside0.mk hu
 clear hu
 refine step_new (cs := [.int .i64 a2_0, .int .i64 a2_1, .int .i64 a2_2]) (T := 71) (f := fun b => .pointer (some ⟨b, 0, none⟩)) rfl (by go_simp <;> rfl) ?_
 intro b8 w9 hu lb hb8
 simp only[Act.put,nm1,nm2,nm3]
 have lbb8 := Aside0.mk lb
 have ltb8 := Aside0.mk hb8.lt
 clear lb
 have hu10 := Aside0.mk hu
 clear hu
 refine step_new (cs := [.int .i64 a3_0, .int .i64 a3_1, .int .i64 a3_2]) (T := 71) (f := fun b => .pointer (some ⟨b, 0, none⟩)) rfl (by go_simp <;> rfl) ?_
 intro b11 w12 hu lb hb11
 simp only[Act.put,nm1,nm2,nm3]
 have lbb11 := Aside0.mk lb
 have ltb11 := Aside0.mk hb11.lt
 clear lb
 have hu13 := Aside0.mk hu
 clear hu
 refine step_new (cs := [.int .i64 0, .int .i64 0, .int .i64 0]) (T := 34) (f := fun b => .pointer (some ⟨b, 0, none⟩)) rfl (by go_simp <;> rfl) ?_
 intro b14 w15 hu lb hb14
 simp only[Act.put,nm1,nm2,nm3]
 have lbb14 := Aside0.mk lb
 have ltb14 := Aside0.mk hb14.lt
 clear lb
 have hu16 := Aside0.mk hu
 clear hu
 refine wpp fun k h=>?_;go_simp;apply h;clear h k
 refine wpList_nil (hK1 _ _ ?_)
 refine wp_seq_k fun K17 hK17=>?_
 refine wp_seq_k fun K18 hK18=>wp_region_lit ?_
 have cl0 := (hb2.up (((hu7.out.trans hu10.out).trans hu13.out).trans hu16.out)).cell (o := 0) rfl
 refine wpp fun k h=>?_;go_simp;apply h;clear h k
 clear cl0
 refine wpp fun k h=>?_;go_simp;apply h;clear h k
 refine step_call wn (by go_simp <;> rfl) (impl_asked__impl_RadicalLine_1.calls K a0 b5 a1 b2 a0 b8 a2_0 a2_1 a2_2 b11 a3_0 a3_1 a3_2 t19 w15 (hb5.up ((hu10.out.trans hu13.out).trans hu16.out)) (hb2.up (((hu7.out.trans hu10.out).trans hu13.out).trans hu16.out)) (hb8.up (hu13.out.trans hu16.out)) (hb11.up hu16.out) A20.out) ?_
 rintro e w21 ⟨rfl, hu⟩
 have hu22 := Aside0.mk hu
 clear hu
 refine ⟨_, rfl, ?_⟩
 simp only[Act.put,nm1,nm2,nm3]
 refine wpp fun k h=>?_;go_simp;apply h;clear h k
 refine wpList_nil (hK18 _ _ ?_)
 refine wp_seq_k fun K23 hK23=>wp_region_lit ?_
 iterate 2 (refine wpp fun k h=>?_;go_simp;apply h;clear h k)
 refine wpList_nil (hK23 _ _ ?_)
 have hm25 := Aside0.mk (((((hu4.out.trans hu7.out).trans hu10.out).trans hu13.out).trans hu16.out).trans hu22.out)
 have h26 := (hb2.up ((((hu7.out.trans hu10.out).trans hu13.out).trans hu16.out).trans hu22.out))
 have h27 := (hb5.up (((hu10.out.trans hu13.out).trans hu16.out).trans hu22.out))
 by_cases c24 : (t19 == 0) = true
 rotate_left
 ·
  rw [if_neg c24] at H; replace c24 := Bool.eq_false_iff.mpr c24
  have c24n : (t19 != 0) = true := by rw [bne, c24]; rfl
  have c24p : ¬ t19 = 0 := fun e => by simp [e] at c24
  simp only [Option.some.injEq, Prod.mk.injEq] at H
  obtain ⟨rfl, rfl, rfl, rfl⟩ := H
  try simp only [c24, c24n, Bool.not_true, Bool.not_false]
  refine wp_cond_true rfl ?_
  refine wp_seq_k fun K59 hK59=>wp_region_lit ?_
  iterate 2 (refine wpp fun k h=>?_;go_simp;apply h;clear h k)
  have hB0 := (hb14.up hu22.out)
  have cl0 := hB0.cell (o := 0) rfl
  have fr0 := hB0.free 0
  have cl1 := hB0.cell (o := 1) rfl
  have fr1 := hB0.free 1
  have cl2 := hB0.cell (o := 2) rfl
  have fr2 := hB0.free 2
  refine step_store (b := b14) (cs' := [.int .i64 0, .int .i64 0, .int .i64 0]) (T := 34) (W' := (((w21.setCell ⟨b14, 0, none⟩ (.int .i64 0)).setCell ⟨b14, 1, none⟩ (.int .i64 0)).setCell ⟨b14, 2, none⟩ (.int .i64 0))) rfl rfl (by go_simp <;> rfl) ((((Sto.refl _ _).setCell 0 _).setCell 1 _).setCell 2 _) ((((hB0).setCell 0 _).setCell 1 _).setCell 2 _) ?_
  clear hB0 cl0 fr0 cl1 fr1 cl2 fr2
  intro w60 hs hb62
  have hs61 := Aside0.mk hs
  clear hs
  have h63 := h26.sto hs61.out (Nat.ne_of_lt (Nat.lt_of_lt_of_le (Nat.lt_of_lt_of_le ltb2.out ((Nat.le_trans ((Nat.le_trans (hu7.out.size) hu10.out.size)) hu13.out.size))) lbb14.out))
  have h64 := h27.sto hs61.out (Nat.ne_of_lt (Nat.lt_of_lt_of_le (Nat.lt_of_lt_of_le ltb5.out ((Nat.le_trans (hu10.out.size) hu13.out.size))) lbb14.out))
  refine wpp fun k h=>?_;go_simp;apply h;clear h k
  refine wpList_nil (hK59 _ _ ?_)
  refine wp_ret ?_
  refine hQf _ _ _ ?_
  have cr0 := hb62.cell (o := 0) rfl
  have cr1 := hb62.cell (o := 1) rfl
  have cr2 := hb62.cell (o := 2) rfl
  exact bodyPost_ret (v := .tuple #[.agg #[.int .i64 0, .int .i64 0, .int .i64 0], .int .i64 t19]) (by first|rfl|simp [results, Try.results52, go_sem, cr0, cr1, cr2]<;>rfl) rfl ⟨rfl, (hm25.out.sto (Nat.le_trans ((Nat.le_trans ((Nat.le_trans ((Nat.le_trans (hu4.out.size) hu7.out.size)) hu10.out.size)) hu13.out.size)) lbb14.out) hs61.out)⟩
 rw [if_pos c24] at H
 have c24n : (t19 != 0) = false := by rw [bne, c24]; rfl
 try simp only [c24, c24n, Bool.not_true, Bool.not_false]
 refine wp_cond_false rfl ?_
 refine wp_skip ?_
 refine hK17 _ _ ?_
 refine wp_seq_k fun K28 hK28=>?_
 refine wp_seq_k fun K29 hK29=>wp_region_lit ?_
 refine wpp fun k h=>?_;go_simp;apply h;clear h k
 have cl0 := (hb8.up ((hu13.out.trans hu16.out).trans hu22.out)).cell (o := 0) rfl
 have cl1 := (hb8.up ((hu13.out.trans hu16.out).trans hu22.out)).cell (o := 1) rfl
 refine wpp fun k h=>?_;go_simp;apply h;clear h k
 clear cl0 cl1
 refine wpp fun k h=>?_;go_simp;apply h;clear h k
 have cl0 := (hb11.up (hu16.out.trans hu22.out)).cell (o := 0) rfl
 have cl1 := (hb11.up (hu16.out.trans hu22.out)).cell (o := 1) rfl
 refine wpp fun k h=>?_;go_simp;apply h;clear h k
 clear cl0 cl1
 refine wpp fun k h=>?_;go_simp;apply h;clear h k
 refine wpList_nil (hK29 _ _ ?_)
 by_cases c30 : (a2_0 == a3_0 && a2_1 == a3_1) = true
 ·
  rw [if_pos c30] at H
  have c30n : (!a2_0 == a3_0 || !a2_1 == a3_1) = false := by simp only [← Bool.not_and, c30, Bool.not_true, Bool.not_false]
  simp only [Option.some.injEq, Prod.mk.injEq] at H
  obtain ⟨rfl, rfl, rfl, rfl⟩ := H
  try simp only [c30, c30n, Bool.not_true, Bool.not_false]
  refine wp_cond_true rfl ?_
  refine wp_seq_k fun K31 hK31=>wp_region_lit ?_
  refine wpp fun k h=>?_;go_simp;apply h;clear h k
  have hB0 := (hb14.up hu22.out)
  have cl0 := hB0.cell (o := 0) rfl
  have fr0 := hB0.free 0
  have cl1 := hB0.cell (o := 1) rfl
  have fr1 := hB0.free 1
  have cl2 := hB0.cell (o := 2) rfl
  have fr2 := hB0.free 2
  refine step_store (b := b14) (cs' := [.int .i64 0, .int .i64 0, .int .i64 0]) (T := 34) (W' := (((w21.setCell ⟨b14, 0, none⟩ (.int .i64 0)).setCell ⟨b14, 1, none⟩ (.int .i64 0)).setCell ⟨b14, 2, none⟩ (.int .i64 0))) rfl rfl (by go_simp <;> rfl) ((((Sto.refl _ _).setCell 0 _).setCell 1 _).setCell 2 _) ((((hB0).setCell 0 _).setCell 1 _).setCell 2 _) ?_
  clear hB0 cl0 fr0 cl1 fr1 cl2 fr2
  intro w32 hs hb34
  have hs33 := Aside0.mk hs
  clear hs
  have h35 := h26.sto hs33.out (Nat.ne_of_lt (Nat.lt_of_lt_of_le (Nat.lt_of_lt_of_le ltb2.out ((Nat.le_trans ((Nat.le_trans (hu7.out.size) hu10.out.size)) hu13.out.size))) lbb14.out))
  have h36 := h27.sto hs33.out (Nat.ne_of_lt (Nat.lt_of_lt_of_le (Nat.lt_of_lt_of_le ltb5.out ((Nat.le_trans (hu10.out.size) hu13.out.size))) lbb14.out))
  refine wpp fun k h=>?_;go_simp;apply h;clear h k
  refine wpList_nil (hK31 _ _ ?_)
  refine wp_ret ?_
  refine hQf _ _ _ ?_
  have cr0 := hb34.cell (o := 0) rfl
  have cr1 := hb34.cell (o := 1) rfl
  have cr2 := hb34.cell (o := 2) rfl
  exact bodyPost_ret (v := .tuple #[.agg #[.int .i64 0, .int .i64 0, .int .i64 0], .int .i64 5]) (by first|rfl|simp [results, Try.results52, go_sem, cr0, cr1, cr2]<;>rfl) rfl ⟨rfl, (hm25.out.sto (Nat.le_trans ((Nat.le_trans ((Nat.le_trans ((Nat.le_trans (hu4.out.size) hu7.out.size)) hu10.out.size)) hu13.out.size)) lbb14.out) hs33.out)⟩
 rw [if_neg c30] at H; replace c30 := Bool.eq_false_iff.mpr c30
 have c30n : (!a2_0 == a3_0 || !a2_1 == a3_1) = true := by simp only [← Bool.not_and, c30, Bool.not_true, Bool.not_false]
 obtain ⟨t39,A40,H⟩:=Option.bind_eq_some_iff.mp H
 replace A40:=Aside0.mk A40;try dsimp only at H
 obtain ⟨t44,A45,H⟩:=Option.bind_eq_some_iff.mp H
 replace A45:=Aside0.mk A45;try dsimp only at H
 obtain ⟨t46,A47,H⟩:=Option.bind_eq_some_iff.mp H
 replace A47:=Aside0.mk A47;try dsimp only at H
 obtain ⟨⟨t48, t49, t50⟩,A51,H⟩:=Option.bind_eq_some_iff.mp H
 replace A51:=Aside0.mk A51;try dsimp only at H
 simp only [Option.some.injEq, Prod.mk.injEq] at H
 obtain ⟨rfl, rfl, rfl, rfl⟩ := H
 try simp only [c30, c30n, Bool.not_true, Bool.not_false]
 refine wp_cond_false rfl ?_
 refine wp_skip ?_
 refine hK28 _ _ ?_
 refine wp_seq_k fun K37 hK37=>wp_region_lit ?_
 iterate 2 (refine wpp fun k h=>?_;go_simp;apply h;clear h k)
 refine wpList_nil (hK37 _ _ ?_)
 refine wp_seq_k fun K38 hK38=>wp_region_lit ?_
 iterate 2 (refine wpp fun k h=>?_;go_simp;apply h;clear h k)
 refine step_call wn (by go_simp <;> rfl) (impl_RadicalLine_2.calls K 0 0 b2 a0 b5 a1 b8 a2_0 a2_1 a2_2 b11 a3_0 a3_1 a3_2 t39 w21 h26 h27 (hb8.up ((hu13.out.trans hu16.out).trans hu22.out)) (hb11.up (hu16.out.trans hu22.out)) A40.out) ?_
 rintro e w41 ⟨rfl, hu⟩
 have hu42 := Aside0.mk hu
 clear hu
 refine ⟨_, rfl, ?_⟩
 simp only[Act.put,nm1,nm2,nm3]
 refine wpp fun k h=>?_;go_simp;apply h;clear h k
 refine wpList_nil (hK38 _ _ ?_)
 refine wp_seq_k fun K43 hK43=>?_
 refine' wp_region_up 13 [Slot.det _, Slot.det _, Slot.det _, Slot.det (.int .i64 t44), Slot.det _, Slot.det _, Slot.det _, Slot.det _, Slot.det (.int .i64 t46), Slot.det _, Slot.det _, Slot.det _, Slot.det (.agg #[.int .i64 t48, .int .i64 t49, .int .i64 t50])] (by kernel_rfl) (by kernel_rfl) ?main
 case main =>
  simp only [List.take_succ_cons, List.take_zero]
  refine wpK_ops rfl (fun w1 hu => ?_) ?_
  · have cl0 := ((h26.up hu42.out).up ((Up.refl _).drew.trans hu)).cell (o := 0) rfl
    go_simp
    first | done | rfl
  simp only[Act.put,nm1,nm2,nm3]
  refine wpK_ops rfl (fun w1 hu => ?_) ?_
  · clear hu
    go_simp
    first | done | rfl
  simp only[Act.put,nm1,nm2,nm3]
  refine wpK_ops rfl (fun w1 hu => ?_) ?_
  · clear hu
    go_simp
    first | done | rfl
  simp only[Act.put,nm1,nm2,nm3]
  refine wpK_ops rfl (fun w1 hu => ?_) ?_
  · have hcl := (impl_RadicalLine_2.calls K 1 0 b2 a0 b5 a1 b8 a2_0 a2_1 a2_2 b11 a3_0 a3_1 a3_2 t44 w1 ((h26.up hu42.out).up ((Up.refl _).drew.trans hu)) ((h27.up hu42.out).up ((Up.refl _).drew.trans hu)) ((hb8.up (((hu13.out.trans hu16.out).trans hu22.out).trans hu42.out)).up ((Up.refl _).drew.trans hu)) ((hb11.up ((hu16.out.trans hu22.out).trans hu42.out)).up ((Up.refl _).drew.trans hu)) A45.out)
    clear hu
    replace hcl := Aside0.mk hcl
    go_simp
    exact hcl.out
  simp only[Act.put,nm1,nm2,nm3]
  refine wpK_ops rfl (fun w1 hu => ?_) ?_
  · clear hu
    go_simp
    first | done | rfl
  simp only[Act.put,nm1,nm2,nm3]
  refine wpK_ops rfl (fun w1 hu => ?_) ?_
  · clear hu
    go_simp
    first | done | rfl
  simp only[Act.put,nm1,nm2,nm3]
  refine wpK_ops rfl (fun w1 hu => ?_) ?_
  · clear hu
    go_simp
    first | done | rfl
  simp only[Act.put,nm1,nm2,nm3]
  refine wpK_ops rfl (fun w1 hu => ?_) ?_
  · clear hu
    go_simp
    first | done | rfl
  simp only[Act.put,nm1,nm2,nm3]
  refine wpK_ops rfl (fun w1 hu => ?_) ?_
  · have hcl := (impl_RadicalLine_2.calls K 0 1 b2 a0 b5 a1 b8 a2_0 a2_1 a2_2 b11 a3_0 a3_1 a3_2 t46 w1 ((h26.up hu42.out).up ((Up.refl _).drew.trans hu)) ((h27.up hu42.out).up ((Up.refl _).drew.trans hu)) ((hb8.up (((hu13.out.trans hu16.out).trans hu22.out).trans hu42.out)).up ((Up.refl _).drew.trans hu)) ((hb11.up ((hu16.out.trans hu22.out).trans hu42.out)).up ((Up.refl _).drew.trans hu)) A47.out)
    clear hu
    replace hcl := Aside0.mk hcl
    go_simp
    exact hcl.out
  simp only[Act.put,nm1,nm2,nm3]
  refine wpK_ops rfl (fun w1 hu => ?_) ?_
  · clear hu
    go_simp
    first | done | rfl
  simp only[Act.put,nm1,nm2,nm3]
  refine wpK_ops rfl (fun w1 hu => ?_) ?_
  · clear hu
    go_simp
    first | done | rfl
  simp only[Act.put,nm1,nm2,nm3]
  refine wpK_ops rfl (fun w1 hu => ?_) ?_
  · clear hu
    go_simp
    first | done | rfl
  simp only[Act.put,nm1,nm2,nm3]
  refine wpK_ops rfl (fun w1 hu => ?_) ?_
  · have hcl := (impl_makeLine.calls K a0 (wrap64 (t44 - t39)) (wrap64 (t46 - t39)) t39 t48 t49 t50 w1  A51.out)
    clear hu
    replace hcl := Aside0.mk hcl
    go_simp
    exact hcl.out
  simp only[Act.put,nm1,nm2,nm3]
  refine wpK_nil ?_
  intro w52 hu hap
  simp only [List.drop_succ_cons, List.drop_zero]
  replace hu := (Up.refl _).drew.trans hu
  clear hap
  have hu53 := Aside0.mk hu
  clear hu
  have hB0 := (hb14.up ((hu22.out.trans hu42.out).trans hu53.out))
  have cl0 := hB0.cell (o := 0) rfl
  have fr0 := hB0.free 0
  have cl1 := hB0.cell (o := 1) rfl
  have fr1 := hB0.free 1
  have cl2 := hB0.cell (o := 2) rfl
  have fr2 := hB0.free 2
  refine step_store (b := b14) (cs' := [.int .i64 t48, .int .i64 t49, .int .i64 t50]) (T := 34) (W' := (((w52.setCell ⟨b14, 0, none⟩ (.int .i64 t48)).setCell ⟨b14, 1, none⟩ (.int .i64 t49)).setCell ⟨b14, 2, none⟩ (.int .i64 t50))) rfl rfl (by go_simp <;> rfl) ((((Sto.refl _ _).setCell 0 _).setCell 1 _).setCell 2 _) ((((hB0).setCell 0 _).setCell 1 _).setCell 2 _) ?_
  clear hB0 cl0 fr0 cl1 fr1 cl2 fr2
  intro w54 hs hb56
  have hs55 := Aside0.mk hs
  clear hs
  have h57 := (h26.up (hu42.out.trans hu53.out)).sto hs55.out (Nat.ne_of_lt (Nat.lt_of_lt_of_le (Nat.lt_of_lt_of_le ltb2.out ((Nat.le_trans ((Nat.le_trans (hu7.out.size) hu10.out.size)) hu13.out.size))) lbb14.out))
  have h58 := (h27.up (hu42.out.trans hu53.out)).sto hs55.out (Nat.ne_of_lt (Nat.lt_of_lt_of_le (Nat.lt_of_lt_of_le ltb5.out ((Nat.le_trans (hu10.out.size) hu13.out.size))) lbb14.out))
  refine wpp fun k h=>?_;go_simp;apply h;clear h k
  refine wpList_nil (hK43 _ _ ?_)
  refine wp_ret ?_
  refine hQf _ _ _ ?_
  have cr0 := hb56.cell (o := 0) rfl
  have cr1 := hb56.cell (o := 1) rfl
  have cr2 := hb56.cell (o := 2) rfl
  exact bodyPost_ret (v := .tuple #[.agg #[.int .i64 t48, .int .i64 t49, .int .i64 t50], .int .i64 0]) (by first|rfl|simp [results, Try.results52, go_sem, cr0, cr1, cr2]<;>rfl) rfl ⟨rfl, (((hm25.out.trans hu42.out).trans hu53.out).sto (Nat.le_trans ((Nat.le_trans ((Nat.le_trans ((Nat.le_trans (hu4.out.size) hu7.out.size)) hu10.out.size)) hu13.out.size)) lbb14.out) hs55.out)⟩

set_option maxHeartbeats 40000000 in
set_option maxRecDepth 100000 in
theorem spec_l01In.calls (K : Nat) (a0 : Int) (a1 : Int) (a2 : Int) (r0 : Bool) (w : World)  (h : spec_l01In.f K a0 a1 a2 = some (r0)) :
    Calls Try.prog 182 #[.int .i64 a0, .int .i64 a1, .int .i64 a2] w fun e w' => e = .returned (.bool r0) ∧ Up w w' := by
 have H : ((if decide (a1 ≤ a0) = true then some (decide (a0 ≤ a2)) else some false) : Option (Bool)) = some (r0) := h
 clear h
 go_enter Try.func182, Try.ntmps182
 refine wp_hide (fun Qf hQf => ?_)
 refine wp_seq_k fun K1 hK1=>wp_region_lit ?_
 refine wpp fun k h=>?_;go_simp;apply h;clear h k
 refine wpList_nil (hK1 _ _ ?_)
 refine wp_seq_k fun K2 hK2=>wp_region_lit ?_
 iterate 4 (refine wpp fun k h=>?_;go_simp;apply h;clear h k)
 by_cases c3 : (decide (a1 ≤ a0)) = true
 ·
  rw [if_pos c3] at H
  obtain rfl := Option.some.inj H
  try simp only [c3, Bool.not_true, Bool.not_false]
  refine wpList_step fun k h=>?_;go_simp;apply h;clear h k
  refine wpList_step fun k h=>?_;go_simp;apply h;clear h k
  refine wpList_step fun k h=>?_;go_simp;apply h;clear h k
  iterate 2 (refine wpp fun k h=>?_;go_simp;apply h;clear h k)
  refine wpList_nil (hK2 _ _ ?_)
  refine wp_ret ?_
  refine hQf _ _ _ ?_
  exact bodyPost_ret (v := .bool (decide (a0 ≤ a2))) (by first|rfl|simp [results, Try.results182, go_sem]<;>rfl) rfl ⟨rfl, (Up.refl _)⟩
 rw [if_neg c3] at H; replace c3 := Bool.eq_false_iff.mpr c3
 obtain rfl := Option.some.inj H
 try simp only [c3, Bool.not_true, Bool.not_false]
 refine step_no rfl ?_
 simp only[Act.put,nm1,nm2,nm3]
 refine step_no rfl ?_
 simp only[Act.put,nm1,nm2,nm3]
 refine step_no rfl ?_
 simp only[Act.put,nm1,nm2,nm3]
 iterate 2 (refine wpp fun k h=>?_;go_simp;apply h;clear h k)
 refine wpList_nil (hK2 _ _ ?_)
 refine wp_ret ?_
 refine hQf _ _ _ ?_
 exact bodyPost_ret (v := .bool false) (by first|rfl|simp [results, Try.results182, go_sem]<;>rfl) rfl ⟨rfl, (Up.refl _)⟩

set_option maxHeartbeats 40000000 in
set_option maxRecDepth 100000 in
theorem spec_l01Field.calls (K : Nat) (a0 : Int) (r0 : Bool) (w : World)  (h : spec_l01Field.f K a0 = some (r0)) :
    Calls Try.prog 200 #[.int .i64 a0] w fun e w' => e = .returned (.bool r0) ∧ Up w w' := by
 have H : (((spec_l01In.f K a0 3 31).bind fun t4 => (if t4 = true then (spec_l01Field.l0 K a0 K 2) else some false)) : Option (Bool)) = some (r0) := h
 clear h
 obtain ⟨t4,A5,H⟩:=Option.bind_eq_some_iff.mp H
 replace A5:=Aside0.mk A5;try dsimp only at H
 go_enter Try.func200, Try.ntmps200
 refine wp_hide (fun Qf hQf => ?_)
 refine wp_seq_k fun K1 hK1=>wp_region_lit ?_
 refine wpp fun k h=>?_;go_simp;apply h;clear h k
 refine wpList_nil (hK1 _ _ ?_)
 refine wp_seq_k fun K2 hK2=>?_
 refine wp_seq_k fun K3 hK3=>wp_region_lit ?_
 refine wpp fun k h=>?_;go_simp;apply h;clear h k
 refine step_call wn (by go_simp <;> rfl) (spec_l01In.calls K a0 3 31 t4 w  A5.out) ?_
 rintro e w6 ⟨rfl, hu⟩
 have hu7 := Aside0.mk hu
 clear hu
 refine ⟨_, rfl, ?_⟩
 simp only[Act.put,nm1,nm2,nm3]
 refine wpp fun k h=>?_;go_simp;apply h;clear h k
 refine wpList_nil (hK3 _ _ ?_)
 by_cases c8 : (t4) = true
 rotate_left
 ·
  rw [if_neg c8] at H; replace c8 := Bool.eq_false_iff.mpr c8
  subst c8
  obtain rfl := Option.some.inj H
  refine wp_cond_true rfl ?_
  refine wp_seq_k fun K31 hK31=>wp_region_lit ?_
  refine wpp fun k h=>?_;go_simp;apply h;clear h k
  refine wpList_nil (hK31 _ _ ?_)
  refine wp_ret ?_
  refine hQf _ _ _ ?_
  exact bodyPost_ret (v := .bool false) (by first|rfl|simp [results, Try.results200, go_sem]<;>rfl) rfl ⟨rfl, hu7.out⟩
 rw [if_pos c8] at H
 subst c8
 refine wp_cond_false rfl ?_
 refine wp_skip ?_
 refine hK2 _ _ ?_
 refine wp_seq_k fun K9 hK9=>?_
 refine wp_seq_k fun K10 hK10=>wp_region_lit ?_
 refine wpp fun k h=>?_;go_simp;apply h;clear h k
 refine wpList_nil (hK10 _ _ ?_)
 refine wp_block ?_
 have HL15 := Aside0.mk H
 clear H
 go_loopg [3] K (fun kq v3 w' => ∃ (x11 : Int), v3 = .int .i64 x11 ∧ Aside0 (spec_l01Field.l0 K a0 kq x11 = some (r0)) ∧ Aside0 (kq ≤ K) ∧ Aside0 (Up w6 w') ∧ Aside0 (w6.heap.size ≤ w'.heap.size))
 case atStart => exact ⟨2, (by first | rfl | simp), HL15, ⟨Nat.le_refl _⟩, ⟨(Up.refl _)⟩, ⟨Nat.le_refl _⟩⟩
 case round =>
  rename_i J18 K19 hJ18 hK19
  obtain ⟨x11, rfl, HL20, hk17, hu13, hz14⟩ := hrel
  obtain ⟨w12, rfl⟩ : ∃ wo : World, wo = wr := ⟨_, rfl⟩
  obtain ⟨k16, rfl⟩ | rfl : (∃ k, gk = k + 1) ∨ gk = 0 := by rcases gk with _ | k; exact .inr rfl; exact .inl ⟨k, rfl⟩
  case inr => exact absurd HL20.out (by simp [spec_l01Field.l0])
  have H := HL20.out
  clear HL20
  rw [spec_l01Field.l0] at H
  refine wp_seq_k fun K21 hK21=>?_
  refine wp_seq_k fun K22 hK22=>wp_region_lit ?_
  iterate 5 (refine wpp fun k h=>?_;go_simp;apply h;clear h k)
  refine wpList_nil (hK22 _ _ ?_)
  by_cases c23 : (decide ((wrap64 (x11 * x11)) ≤ a0)) = true
  rotate_left
  ·
   rw [if_neg c23] at H; replace c23 := Bool.eq_false_iff.mpr c23
   obtain rfl := Option.some.inj H
   try simp only [c23, Bool.not_true, Bool.not_false]
   refine wp_cond_false rfl ?_
   refine wp_exit ?_
   refine hK9 _ _ ?_
   refine wp_seq_k fun K30 hK30=>wp_region_lit ?_
   refine wpp fun k h=>?_;go_simp;apply h;clear h k
   refine wpList_nil (hK30 _ _ ?_)
   refine wp_ret ?_
   refine hQf _ _ _ ?_
   exact bodyPost_ret (v := .bool true) (by first|rfl|simp [results, Try.results200, go_sem]<;>rfl) rfl ⟨rfl, (hu7.out.trans hu13.out)⟩
  rw [if_pos c23] at H
  try simp only [c23, Bool.not_true, Bool.not_false]
  refine wp_cond_true rfl ?_
  refine wp_skip ?_
  refine hK21 _ _ ?_
  refine wp_seq_k fun K24 hK24=>?_
  refine wp_block ?_
  refine wp_seq_k fun K25 hK25=>wp_region_lit ?_
  iterate 2 (refine wpp fun k h=>?_;go_simp;apply h;clear h k)
  by_cases c26 : (x11 == 0) = true
  ·
   rw [if_pos c26] at H
   have c26n : (x11 != 0) = false := by rw [bne, c26]; rfl
   exact absurd H (by simp)
  rw [if_neg c26] at H; replace c26 := Bool.eq_false_iff.mpr c26
  have c26n : (x11 != 0) = true := by rw [bne, c26]; rfl
  have c26p : ¬ x11 = 0 := fun e => by simp [e] at c26
  try simp only [c26, c26n, Bool.not_true, Bool.not_false]
  iterate 2 (refine wpp fun k h=>?_;go_simp;apply h;clear h k)
  refine wpList_nil (hK25 _ _ ?_)
  by_cases c27 : ((Int.tmod a0 x11) == 0) = true
  ·
   rw [if_pos c27] at H
   have c27n : ((Int.tmod a0 x11) != 0) = false := by rw [bne, c27]; rfl
   obtain rfl := Option.some.inj H
   try simp only [c27, c27n, Bool.not_true, Bool.not_false]
   refine wp_cond_true rfl ?_
   refine wp_seq_k fun K28 hK28=>wp_region_lit ?_
   refine wpp fun k h=>?_;go_simp;apply h;clear h k
   refine wpList_nil (hK28 _ _ ?_)
   refine wp_ret ?_
   refine hQf _ _ _ ?_
   exact bodyPost_ret (v := .bool false) (by first|rfl|simp [results, Try.results200, go_sem]<;>rfl) rfl ⟨rfl, (hu7.out.trans hu13.out)⟩
  rw [if_neg c27] at H; replace c27 := Bool.eq_false_iff.mpr c27
  have c27n : ((Int.tmod a0 x11) != 0) = true := by rw [bne, c27]; rfl
  have c27p : ¬ (Int.tmod a0 x11) = 0 := fun e => by simp [e] at c27
  have HL29 := Aside0.mk H
  clear H
  try simp only [c27, c27n, Bool.not_true, Bool.not_false]
  refine wp_cond_false rfl ?_
  refine wp_skip ?_
  refine hK24 _ _ ?_
  refine wp_region_lit ?_
  iterate 3 (refine wpp fun k h=>?_;go_simp;apply h;clear h k)
  refine wpList_nil (hK19 _ _ ?_)
  go_roundg k16
  case measure => exact Nat.lt_succ_self _
  case rel => exact ⟨wrap64 (x11 + 1), (by first | rfl | simp), HL29, ⟨by have := hk17.out; omega⟩, ⟨hu13.out⟩, ⟨(Nat.le_trans (Nat.le_refl _) hz14.out)⟩⟩

set_option maxHeartbeats 40000000 in
set_option maxRecDepth 100000 in
theorem spec_l01Point.calls (K : Nat) (a0 : Int) (a1_0 : Int) (a1_1 : Int) (r0 : Bool) (w : World)  (h : spec_l01Point.f K a0 a1_0 a1_1 = some (r0)) :
    Calls Try.prog 201 #[.int .i64 a0, .agg #[.int .i64 a1_0, .int .i64 a1_1]] w fun e w' => e = .returned (.bool r0) ∧ Up w w' := by
 have H : (((spec_l01In.f K a1_0 0 (wrap64 (a0 - 1))).bind fun t6 => (if t6 = true then ((spec_l01In.f K a1_1 0 (wrap64 (a0 - 1))).bind fun t11 => some t11) else some false)) : Option (Bool)) = some (r0) := h
 clear h
 obtain ⟨t6,A7,H⟩:=Option.bind_eq_some_iff.mp H
 replace A7:=Aside0.mk A7;try dsimp only at H
 go_enter Try.func201, Try.ntmps201
 refine wp_hide (fun Qf hQf => ?_)
 refine wp_seq_k fun K1 hK1=>wp_region_lit ?_
 refine step_new (cs := [.int .i64 a1_0, .int .i64 a1_1]) (T := 30) (f := fun b => .pointer (some ⟨b, 0, none⟩)) rfl (by go_simp <;> rfl) ?_
 intro b2 w3 hu lb hb2
 simp only[Act.put,nm1,nm2,nm3]
 have lbb2 := Aside0.mk lb
 have ltb2 := Aside0.mk hb2.lt
 clear lb
 have hu4 := Aside0.mk hu
 clear hu
 refine wpp fun k h=>?_;go_simp;apply h;clear h k
 refine wpList_nil (hK1 _ _ ?_)
 refine wp_seq_k fun K5 hK5=>wp_region_lit ?_
 refine wpp fun k h=>?_;go_simp;apply h;clear h k
 have cl0 := hb2.cell (o := 0) rfl
 refine wpp fun k h=>?_;go_simp;apply h;clear h k
 clear cl0
 iterate 2 (refine wpp fun k h=>?_;go_simp;apply h;clear h k)
 refine step_call wn (by go_simp <;> rfl) (spec_l01In.calls K a1_0 0 (wrap64 (a0 - 1)) t6 w3  A7.out) ?_
 rintro e w8 ⟨rfl, hu⟩
 have hu9 := Aside0.mk hu
 clear hu
 refine ⟨_, rfl, ?_⟩
 simp only[Act.put,nm1,nm2,nm3]
 refine wpp fun k h=>?_;go_simp;apply h;clear h k
 by_cases c10 : (t6) = true
 rotate_left
 ·
  rw [if_neg c10] at H; replace c10 := Bool.eq_false_iff.mpr c10
  subst c10
  obtain rfl := Option.some.inj H
  refine step_no rfl ?_
  simp only[Act.put,nm1,nm2,nm3]
  refine step_no rfl ?_
  simp only[Act.put,nm1,nm2,nm3]
  refine step_no rfl ?_
  simp only[Act.put,nm1,nm2,nm3]
  refine step_no rfl ?_
  simp only[Act.put,nm1,nm2,nm3]
  refine step_no rfl ?_
  simp only[Act.put,nm1,nm2,nm3]
  iterate 2 (refine wpp fun k h=>?_;go_simp;apply h;clear h k)
  refine wpList_nil (hK5 _ _ ?_)
  refine wp_ret ?_
  refine hQf _ _ _ ?_
  exact bodyPost_ret (v := .bool false) (by first|rfl|simp [results, Try.results201, go_sem]<;>rfl) rfl ⟨rfl, (hu4.out.trans hu9.out)⟩
 rw [if_pos c10] at H
 subst c10
 obtain ⟨t11,A12,H⟩:=Option.bind_eq_some_iff.mp H
 replace A12:=Aside0.mk A12;try dsimp only at H
 obtain rfl := Option.some.inj H
 refine wpList_step fun k h=>?_;go_simp;apply h;clear h k
 have cl0 := (hb2.up hu9.out).cell (o := 1) rfl
 refine wpList_step fun k h=>?_;go_simp;apply h;clear h k
 clear cl0
 refine wpList_step fun k h=>?_;go_simp;apply h;clear h k
 refine wpList_step fun k h=>?_;go_simp;apply h;clear h k
 refine step_call rfl (by go_simp <;> rfl) (spec_l01In.calls K a1_1 0 (wrap64 (a0 - 1)) t11 w8  A12.out) ?_
 rintro e w13 ⟨rfl, hu⟩
 have hu14 := Aside0.mk hu
 clear hu
 refine ⟨_, rfl, ?_⟩
 simp only[Act.put,nm1,nm2,nm3]
 iterate 2 (refine wpp fun k h=>?_;go_simp;apply h;clear h k)
 refine wpList_nil (hK5 _ _ ?_)
 refine wp_ret ?_
 refine hQf _ _ _ ?_
 exact bodyPost_ret (v := .bool t11) (by first|rfl|simp [results, Try.results201, go_sem]<;>rfl) rfl ⟨rfl, ((hu4.out.trans hu9.out).trans hu14.out)⟩

set_option maxHeartbeats 40000000 in
set_option maxRecDepth 100000 in
theorem spec_l01Code.calls (K : Nat) (a0 : Int) (a1_A : Option Addr) (a1_c : Nat) (a1 : List (Int × Int)) (r0 : Int) (w : World) (ha1 : Rd e2 w a1_A a1) (h : spec_l01Code.f K a0 a1 = some (r0)) :
    Calls Try.prog 196 #[.int .i64 a0, .slice a1_A a1.length a1_c] w fun e w' => e = .returned (.int .i64 r0) ∧ Up w w' := by
 have H : (((spec_l01Field.f K a0).bind fun t4 => (if t4 = true then (spec_l01Code.l0 K a0 a1 K 0) else some 1)) : Option (Int)) = some (r0) := h
 clear h
 obtain ⟨t4,A5,H⟩:=Option.bind_eq_some_iff.mp H
 replace A5:=Aside0.mk A5;try dsimp only at H
 go_enter Try.func196, Try.ntmps196
 refine wp_hide (fun Qf hQf => ?_)
 refine wp_seq_k fun K1 hK1=>wp_region_lit ?_
 refine wpp fun k h=>?_;go_simp;apply h;clear h k
 refine wpList_nil (hK1 _ _ ?_)
 refine wp_seq_k fun K2 hK2=>?_
 refine wp_seq_k fun K3 hK3=>wp_region_lit ?_
 refine wpp fun k h=>?_;go_simp;apply h;clear h k
 refine step_call wn (by go_simp <;> rfl) (spec_l01Field.calls K a0 t4 w  A5.out) ?_
 rintro e w6 ⟨rfl, hu⟩
 have hu7 := Aside0.mk hu
 clear hu
 refine ⟨_, rfl, ?_⟩
 simp only[Act.put,nm1,nm2,nm3]
 refine wpp fun k h=>?_;go_simp;apply h;clear h k
 refine wpList_nil (hK3 _ _ ?_)
 by_cases c8 : (t4) = true
 rotate_left
 ·
  rw [if_neg c8] at H; replace c8 := Bool.eq_false_iff.mpr c8
  subst c8
  obtain rfl := Option.some.inj H
  refine wp_cond_true rfl ?_
  refine wp_seq_k fun K40 hK40=>wp_region_lit ?_
  refine wpp fun k h=>?_;go_simp;apply h;clear h k
  refine wpList_nil (hK40 _ _ ?_)
  refine wp_ret ?_
  refine hQf _ _ _ ?_
  exact bodyPost_ret (v := .int .i64 1) (by first|rfl|simp [results, Try.results196, go_sem]<;>rfl) rfl ⟨rfl, hu7.out⟩
 rw [if_pos c8] at H
 subst c8
 refine wp_cond_false rfl ?_
 refine wp_skip ?_
 refine hK2 _ _ ?_
 refine wp_seq_k fun K9 hK9=>?_
 refine wp_seq_k fun K10 hK10=>wp_region_lit ?_
 refine wpp fun k h=>?_;go_simp;apply h;clear h k
 refine wpList_nil (hK10 _ _ ?_)
 refine wp_block ?_
 have HL15 := Aside0.mk H
 clear H
 go_loopg [5] K (fun kq v5 w' => ∃ (x11 : Int), v5 = .int .i64 x11 ∧ Aside0 (spec_l01Code.l0 K a0 a1 kq x11 = some (r0)) ∧ Aside0 (kq ≤ K) ∧ Aside0 (Up w6 w') ∧ Aside0 (w6.heap.size ≤ w'.heap.size))
 case atStart => exact ⟨0, (by first | rfl | simp), HL15, ⟨Nat.le_refl _⟩, ⟨(Up.refl _)⟩, ⟨Nat.le_refl _⟩⟩
 case round =>
  rename_i J18 K19 hJ18 hK19
  obtain ⟨x11, rfl, HL20, hk17, hu13, hz14⟩ := hrel
  obtain ⟨w12, rfl⟩ : ∃ wo : World, wo = wr := ⟨_, rfl⟩
  obtain ⟨k16, rfl⟩ | rfl : (∃ k, gk = k + 1) ∨ gk = 0 := by rcases gk with _ | k; exact .inr rfl; exact .inl ⟨k, rfl⟩
  case inr => exact absurd HL20.out (by simp [spec_l01Code.l0])
  have H := HL20.out
  clear HL20
  rw [spec_l01Code.l0] at H
  refine wp_seq_k fun K21 hK21=>?_
  refine wp_seq_k fun K22 hK22=>wp_region_lit ?_
  iterate 4 (refine wpp fun k h=>?_;go_simp;apply h;clear h k)
  refine wpList_nil (hK22 _ _ ?_)
  by_cases c23 : (decide (x11 < (a1.length : Int))) = true
  rotate_left
  ·
   rw [if_neg c23] at H; replace c23 := Bool.eq_false_iff.mpr c23
   obtain rfl := Option.some.inj H
   try simp only [c23, Bool.not_true, Bool.not_false]
   refine wp_cond_false rfl ?_
   refine wp_exit ?_
   refine hK9 _ _ ?_
   refine wp_seq_k fun K39 hK39=>wp_region_lit ?_
   refine wpp fun k h=>?_;go_simp;apply h;clear h k
   refine wpList_nil (hK39 _ _ ?_)
   refine wp_ret ?_
   refine hQf _ _ _ ?_
   exact bodyPost_ret (v := .int .i64 0) (by first|rfl|simp [results, Try.results196, go_sem]<;>rfl) rfl ⟨rfl, (hu7.out.trans hu13.out)⟩
  rw [if_pos c23] at H
  obtain ⟨⟨t26, t27⟩,A28,H⟩:=Option.bind_eq_some_iff.mp H
  replace A28:=Aside0.mk A28;try dsimp only at H
  obtain ⟨t32,A33,H⟩:=Option.bind_eq_some_iff.mp H
  replace A33:=Aside0.mk A33;try dsimp only at H
  try simp only [c23, Bool.not_true, Bool.not_false]
  refine wp_cond_true rfl ?_
  refine wp_skip ?_
  refine hK21 _ _ ?_
  refine wp_seq_k fun K24 hK24=>?_
  refine wp_block ?_
  refine wp_seq_k fun K25 hK25=>wp_region_lit ?_
  iterate 3 (refine wpp fun k h=>?_;go_simp;apply h;clear h k)
  refine step_index e2 (T := 30) wn rfl (by kernel_rfl) (by kernel_rfl) rfl rfl rfl (ha1.up (hu7.out.trans hu13.out)) A28.out ?_
  intro ad29 hat he
  have he30 := Aside0.mk he
  have hat31 := Aside0.mk hat
  clear he hat
  simp only[Act.put,nm1,nm2,nm3]
  have cl0 := he30.out 0 _ rfl
  rw [addr_add0] at cl0
  have cl1 : World.cell? _ ⟨ad29.block, ad29.off + 1, none⟩ = some _ := he30.out 1 _ rfl
  refine wpp fun k h=>?_;go_simp;apply h;clear h k
  clear cl0 cl1
  refine step_call wn (by go_simp <;> rfl) (spec_l01Point.calls K a0 t26 t27 t32 w12  A33.out) ?_
  rintro e w34 ⟨rfl, hu⟩
  have hu35 := Aside0.mk hu
  clear hu
  refine ⟨_, rfl, ?_⟩
  simp only[Act.put,nm1,nm2,nm3]
  refine wpp fun k h=>?_;go_simp;apply h;clear h k
  refine wpList_nil (hK25 _ _ ?_)
  by_cases c36 : (t32) = true
  rotate_left
  ·
   rw [if_neg c36] at H; replace c36 := Bool.eq_false_iff.mpr c36
   subst c36
   obtain rfl := Option.some.inj H
   refine wp_cond_true rfl ?_
   refine wp_seq_k fun K38 hK38=>wp_region_lit ?_
   refine wpp fun k h=>?_;go_simp;apply h;clear h k
   refine wpList_nil (hK38 _ _ ?_)
   refine wp_ret ?_
   refine hQf _ _ _ ?_
   exact bodyPost_ret (v := .int .i64 2) (by first|rfl|simp [results, Try.results196, go_sem]<;>rfl) rfl ⟨rfl, ((hu7.out.trans hu13.out).trans hu35.out)⟩
  rw [if_pos c36] at H
  subst c36
  have HL37 := Aside0.mk H
  clear H
  refine wp_cond_false rfl ?_
  refine wp_skip ?_
  refine hK24 _ _ ?_
  refine wp_region_lit ?_
  iterate 3 (refine wpp fun k h=>?_;go_simp;apply h;clear h k)
  refine wpList_nil (hK19 _ _ ?_)
  go_roundg k16
  case measure => exact Nat.lt_succ_self _
  case rel => exact ⟨wrap64 (x11 + 1), (by first | rfl | simp), HL37, ⟨by have := hk17.out; omega⟩, ⟨(hu13.out.trans hu35.out)⟩, ⟨(Nat.le_trans ((Nat.le_trans (Nat.le_refl _) hz14.out)) hu35.out.size)⟩⟩

set_option maxHeartbeats 40000000 in
set_option maxRecDepth 100000 in
theorem spec_l02Colour.calls (K : Nat) (a0 : Int) (r0 : Bool) (w : World)  (h : spec_l02Colour.f K a0 = some (r0)) :
    Calls Try.prog 197 #[.int .i64 a0] w fun e w' => e = .returned (.bool r0) ∧ Up w w' := by
 have H : (((spec_l01In.f K a0 0 2).bind fun t3 => some t3) : Option (Bool)) = some (r0) := h
 clear h
 obtain ⟨t3,A4,H⟩:=Option.bind_eq_some_iff.mp H
 replace A4:=Aside0.mk A4;try dsimp only at H
 obtain rfl := Option.some.inj H
 go_enter Try.func197, Try.ntmps197
 refine wp_hide (fun Qf hQf => ?_)
 refine wp_seq_k fun K1 hK1=>wp_region_lit ?_
 refine wpp fun k h=>?_;go_simp;apply h;clear h k
 refine wpList_nil (hK1 _ _ ?_)
 refine wp_seq_k fun K2 hK2=>wp_region_lit ?_
 refine wpp fun k h=>?_;go_simp;apply h;clear h k
 refine step_call wn (by go_simp <;> rfl) (spec_l01In.calls K a0 0 2 t3 w  A4.out) ?_
 rintro e w5 ⟨rfl, hu⟩
 have hu6 := Aside0.mk hu
 clear hu
 refine ⟨_, rfl, ?_⟩
 simp only[Act.put,nm1,nm2,nm3]
 refine wpp fun k h=>?_;go_simp;apply h;clear h k
 refine wpList_nil (hK2 _ _ ?_)
 refine wp_ret ?_
 refine hQf _ _ _ ?_
 exact bodyPost_ret (v := .bool t3) (by first|rfl|simp [results, Try.results197, go_sem]<;>rfl) rfl ⟨rfl, hu6.out⟩

set_option maxHeartbeats 40000000 in
set_option maxRecDepth 100000 in
theorem spec_l02Code.calls (K : Nat) (a0 : Int) (a1 : Int) (a2_A : Option Addr) (a2_c : Nat) (a2 : List (Int × Int)) (r0 : Int) (w : World) (ha2 : Rd e2 w a2_A a2) (h : spec_l02Code.f K a0 a1 a2 = some (r0)) :
    Calls Try.prog 164 #[.int .i64 a0, .int .i64 a1, .slice a2_A a2.length a2_c] w fun e w' => e = .returned (.int .i64 r0) ∧ Up w w' := by
 have H : (((spec_l01Code.f K a0 a2).bind fun t3 => (if (t3 == 0) = true then ((spec_l02Colour.f K a1).bind fun t10 => (if t10 = true then some t3 else some 2)) else some t3)) : Option (Int)) = some (r0) := h
 clear h
 obtain ⟨t3,A4,H⟩:=Option.bind_eq_some_iff.mp H
 replace A4:=Aside0.mk A4;try dsimp only at H
 go_enter Try.func164, Try.ntmps164
 refine wp_hide (fun Qf hQf => ?_)
 refine wp_seq_k fun K1 hK1=>wp_region_lit ?_
 refine wpp fun k h=>?_;go_simp;apply h;clear h k
 refine wpList_nil (hK1 _ _ ?_)
 refine wp_seq_k fun K2 hK2=>wp_region_lit ?_
 iterate 2 (refine wpp fun k h=>?_;go_simp;apply h;clear h k)
 refine step_call wn (by go_simp <;> rfl) (spec_l01Code.calls K a0 a2_A a2_c a2 t3 w ha2 A4.out) ?_
 rintro e w5 ⟨rfl, hu⟩
 have hu6 := Aside0.mk hu
 clear hu
 refine ⟨_, rfl, ?_⟩
 simp only[Act.put,nm1,nm2,nm3]
 refine wpp fun k h=>?_;go_simp;apply h;clear h k
 refine wpList_nil (hK2 _ _ ?_)
 refine wp_seq_k fun K7 hK7=>?_
 refine wp_seq_k fun K8 hK8=>wp_region_lit ?_
 iterate 3 (refine wpp fun k h=>?_;go_simp;apply h;clear h k)
 by_cases c9 : (t3 == 0) = true
 rotate_left
 ·
  rw [if_neg c9] at H; replace c9 := Bool.eq_false_iff.mpr c9
  have c9n : (t3 != 0) = true := by rw [bne, c9]; rfl
  have c9p : ¬ t3 = 0 := fun e => by simp [e] at c9
  obtain rfl := Option.some.inj H
  try simp only [c9, c9n, Bool.not_true, Bool.not_false]
  refine step_no rfl ?_
  simp only[Act.put,nm1,nm2,nm3]
  refine step_no rfl ?_
  simp only[Act.put,nm1,nm2,nm3]
  refine step_no rfl ?_
  simp only[Act.put,nm1,nm2,nm3]
  refine wpp fun k h=>?_;go_simp;apply h;clear h k
  refine wpList_nil (hK8 _ _ ?_)
  refine wp_cond_false rfl ?_
  refine wp_skip ?_
  refine hK7 _ _ ?_
  refine wp_seq_k fun K17 hK17=>wp_region_lit ?_
  iterate 2 (refine wpp fun k h=>?_;go_simp;apply h;clear h k)
  refine wpList_nil (hK17 _ _ ?_)
  refine wp_ret ?_
  refine hQf _ _ _ ?_
  exact bodyPost_ret (v := .int .i64 t3) (by first|rfl|simp [results, Try.results164, go_sem]<;>rfl) rfl ⟨rfl, hu6.out⟩
 rw [if_pos c9] at H
 have c9n : (t3 != 0) = false := by rw [bne, c9]; rfl
 obtain ⟨t10,A11,H⟩:=Option.bind_eq_some_iff.mp H
 replace A11:=Aside0.mk A11;try dsimp only at H
 try simp only [c9, c9n, Bool.not_true, Bool.not_false]
 refine wpList_step fun k h=>?_;go_simp;apply h;clear h k
 refine step_call rfl (by go_simp <;> rfl) (spec_l02Colour.calls K a1 t10 w5  A11.out) ?_
 rintro e w12 ⟨rfl, hu⟩
 have hu13 := Aside0.mk hu
 clear hu
 refine ⟨_, rfl, ?_⟩
 simp only[Act.put,nm1,nm2,nm3]
 refine wpList_step fun k h=>?_;go_simp;apply h;clear h k
 refine wpp fun k h=>?_;go_simp;apply h;clear h k
 refine wpList_nil (hK8 _ _ ?_)
 by_cases c14 : (t10) = true
 ·
  rw [if_pos c14] at H
  subst c14
  obtain rfl := Option.some.inj H
  refine wp_cond_false rfl ?_
  refine wp_skip ?_
  refine hK7 _ _ ?_
  refine wp_seq_k fun K15 hK15=>wp_region_lit ?_
  iterate 2 (refine wpp fun k h=>?_;go_simp;apply h;clear h k)
  refine wpList_nil (hK15 _ _ ?_)
  refine wp_ret ?_
  refine hQf _ _ _ ?_
  exact bodyPost_ret (v := .int .i64 t3) (by first|rfl|simp [results, Try.results164, go_sem]<;>rfl) rfl ⟨rfl, (hu6.out.trans hu13.out)⟩
 rw [if_neg c14] at H; replace c14 := Bool.eq_false_iff.mpr c14
 subst c14
 obtain rfl := Option.some.inj H
 refine wp_cond_true rfl ?_
 refine wp_region_lit ?_
 refine wpp fun k h=>?_;go_simp;apply h;clear h k
 refine wpList_nil (hK7 _ _ ?_)
 refine wp_seq_k fun K16 hK16=>wp_region_lit ?_
 iterate 2 (refine wpp fun k h=>?_;go_simp;apply h;clear h k)
 refine wpList_nil (hK16 _ _ ?_)
 refine wp_ret ?_
 refine hQf _ _ _ ?_
 exact bodyPost_ret (v := .int .i64 2) (by first|rfl|simp [results, Try.results164, go_sem]<;>rfl) rfl ⟨rfl, (hu6.out.trans hu13.out)⟩

end Go.Proofs.Ytccbmdpikalpfaa
