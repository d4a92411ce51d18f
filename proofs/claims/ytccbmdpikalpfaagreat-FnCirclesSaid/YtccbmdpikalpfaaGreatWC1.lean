/- The walks: each of these functions of the program computes what its plain function says: laws_big, spec_l01From, spec_l01Next, spec_l01Pick, spec_l01DrawField, spec_l01DrawPoint, spec_l06DrawOf, spec_l02DrawColour, spec_l01In, spec_l02Colour, spec_l01Mod, spec_l01Minus, spec_l02Product, spec_l02Quadrance, spec_l02At, spec_l01BadField, spec_l01BadPoint, spec_l06Bad, spec_l06With, spec_DrawTangentAt, impl_IsField, impl_isColour, impl_isNumber, impl_areNumbers, impl_isPoint, impl_isCircle, impl_TangentAt_1, impl_asked__impl_TangentAt_1, impl_rest, impl_less, impl_product, impl_quadrance, impl_power, impl_inverse, impl_divide, impl_makeLine, impl_through, impl_lineThrough, impl_linesThrough, impl_way, impl_arePerpendicular. -/
import Derived.Test.YtccbmdpikalpfaaGreatProg
import Derived.Test.YtccbmdpikalpfaaGreatD1
import Derived.WalkKit
import Derived.KernelRfl
import Derived.BigQuiet
import Derived.Deep.LoopGhost
import Derived.Laws.StructEq
namespace Go.Proofs.YtccbmdpikalpfaaGreat
open Go Go.RowKit
attribute [local go_sem] Oper.quiet Oper.quietAt Oper.quietUpon Act.put nm1 nm2 nm3 i64_w run_max2 run_min2 mkT_getD mkT_get mkT_set lookT_cons lookT_nil
attribute [local irreducible] wpList
set_option linter.unusedVariables false
set_option linter.unusedSimpArgs false

theorem eqD25 (a0 a1 b0 b1 : Int) (d : Nat) (w : World) : (Op.equalIn (d + 2) 25 (.agg #[.int .i64 a0, .int .i64 a1]) (.agg #[.int .i64 b0, .int .i64 b1])).run Tryz.prog w = .ok (a0 == b0 && a1 == b1) w := by
  rw [Op.equalIn]
  simp only [Sem.run_bind, run_underlying Tryz.underlying25, Result.andThen_ok]
  simp only [Std.Legacy.Range.forIn_eq_forIn_range', Std.Legacy.Range.size, Nat.sub_zero, Nat.add_sub_cancel, Nat.div_one, List.range'_succ, List.range'_zero, List.forIn_cons, List.forIn_nil]
  go_simp
  by_cases h0 : a0 = b0 <;> by_cases h1 : a1 = b1 <;> simp [h0, h1]
theorem eqT25 (a0 a1 b0 b1 : Int) (w : World) : (Op.equalIn 10000 25 (.agg #[.int .i64 a0, .int .i64 a1]) (.agg #[.int .i64 b0, .int .i64 b1])).run Tryz.prog w = .ok (a0 == b0 && a1 == b1) w := eqD25 a0 a1 b0 b1 9998 w

theorem eqD31 (a0 a1 a2 b0 b1 b2 : Int) (d : Nat) (w : World) : (Op.equalIn (d + 2) 31 (.agg #[.int .i64 a0, .int .i64 a1, .int .i64 a2]) (.agg #[.int .i64 b0, .int .i64 b1, .int .i64 b2])).run Tryz.prog w = .ok (a0 == b0 && (a1 == b1 && a2 == b2)) w := by
  rw [Op.equalIn]
  simp only [Sem.run_bind, run_underlying Tryz.underlying31, Result.andThen_ok]
  simp only [Std.Legacy.Range.forIn_eq_forIn_range', Std.Legacy.Range.size, Nat.sub_zero, Nat.add_sub_cancel, Nat.div_one, List.range'_succ, List.range'_zero, List.forIn_cons, List.forIn_nil]
  go_simp
  by_cases h0 : a0 = b0 <;> by_cases h1 : a1 = b1 <;> by_cases h2 : a2 = b2 <;> simp [h0, h1, h2]
theorem eqT31 (a0 a1 a2 b0 b1 b2 : Int) (w : World) : (Op.equalIn 10000 31 (.agg #[.int .i64 a0, .int .i64 a1, .int .i64 a2]) (.agg #[.int .i64 b0, .int .i64 b1, .int .i64 b2])).run Tryz.prog w = .ok (a0 == b0 && (a1 == b1 && a2 == b2)) w := eqD31 a0 a1 a2 b0 b1 b2 9998 w

theorem eqT27 (a0 a1 a2 b0 b1 b2 : Int) (w : World) : (Op.equalIn 10000 27 (.agg #[.int .i64 a0, .int .i64 a1, .int .i64 a2]) (.agg #[.int .i64 b0, .int .i64 b1, .int .i64 b2])).run Tryz.prog w = .ok (a0 == b0 && (a1 == b1 && a2 == b2)) w := by
  rw [show (10000 : Nat) = 9999 + 1 from rfl, run_equalIn_agg _ _ _ _ _ (by kernel_rfl) (by kernel_rfl)]
  have hF : (Tryz.prog.fieldsOf 27).toList.map (fun f => (f.name != "_", f.type, f.offset)) = [(true, 25, 0), (true, 2, 2)] := by kernel_rfl
  generalize (Tryz.prog.fieldsOf 27).toList = fs at hF ⊢
  obtain ⟨f0, fs0, rfl, e0, hF⟩ := List.map_eq_cons_iff.1 hF
  obtain ⟨f1, fs1, rfl, e1, hF⟩ := List.map_eq_cons_iff.1 hF
  obtain rfl := List.map_eq_nil_iff.1 hF
  simp only [Prod.mk.injEq] at e0
  obtain ⟨n0, t0, o0⟩ := e0
  simp only [Prod.mk.injEq] at e1
  obtain ⟨n1, t1, o1⟩ := e1
  have m0 : f0.name ≠ "_" := by simpa using n0
  have p0x : (part 25 #[.int .i64 a0, .int .i64 a1, .int .i64 a2] 0).run Tryz.prog w = .ok (.agg #[.int .i64 a0, .int .i64 a1]) w := by
      have z := Tryz.sizeOf25 w
      have a := Tryz.isAgg25 w
      simp [part, Sem.run_bind, z, a]
  have p0y : (part 25 #[.int .i64 b0, .int .i64 b1, .int .i64 b2] 0).run Tryz.prog w = .ok (.agg #[.int .i64 b0, .int .i64 b1]) w := by
      have z := Tryz.sizeOf25 w
      have a := Tryz.isAgg25 w
      simp [part, Sem.run_bind, z, a]
  have q0 := eqD25 a0 a1 b0 b1 9997 w
  have m1 : f1.name ≠ "_" := by simpa using n1
  have p1x : (part 2 #[.int .i64 a0, .int .i64 a1, .int .i64 a2] 2).run Tryz.prog w = .ok (.int .i64 a2) w := by simp [part, isAgg, run_underlying Tryz.underlying2]
  have p1y : (part 2 #[.int .i64 b0, .int .i64 b1, .int .i64 b2] 2).run Tryz.prog w = .ok (.int .i64 b2) w := by simp [part, isAgg, run_underlying Tryz.underlying2]
  have q1 : (Op.equalIn 9999 2 (.int .i64 a2) (.int .i64 b2)).run Tryz.prog w = .ok (a2 == b2) w := run_equalIn_int w 9998 2 .i64 .i64 a2 b2 Tryz.underlying2
  simp only [Op.eqFields, ne_eq, m0, m1, not_false_eq_true, if_true, t0, o0, t1, o1, Sem.run_bind, Result.andThen_ok, Sem.run_pure]
  simp only [p0x, p0y, q0, p1x, p1y, q1, Sem.run_bind, Result.andThen_ok, Sem.run_pure]
  cases x0 : (a0 == b0 && a1 == b1) <;> simp only [x0, Bool.not_true, Bool.not_false, if_true, Bool.false_eq_true, if_false, p0x, p0y, q0, p1x, p1y, q1, Sem.run_bind, Result.andThen_ok, Sem.run_pure]
  · rw [Result.ok.injEq]; refine ⟨?_, rfl⟩; revert x0; by_cases h0 : a0 = b0 <;> by_cases h1 : a1 = b1 <;> simp [h0, h1]
  cases x1 : (a2 == b2) <;> simp only [x1, Bool.not_true, Bool.not_false, if_true, Bool.false_eq_true, if_false, p0x, p0y, q0, p1x, p1y, q1, Sem.run_bind, Result.andThen_ok, Sem.run_pure]
  · rw [Result.ok.injEq]; refine ⟨?_, rfl⟩; revert x1; by_cases h2 : a2 = b2 <;> simp [h2]
  simp_all
theorem eqR27 (a0 a1 a2 b0 b1 b2 : Int) (w : World) : (((Op.equalIn 9999 25 (.agg #[.int .i64 a0, .int .i64 a1]) (.agg #[.int .i64 b0, .int .i64 b1])).run Tryz.prog w).andThen fun a w' => if a = false then Result.ok false w' else (if a2 = b2 then Result.ok true w' else Result.ok false w')) = .ok (a0 == b0 && (a1 == b1 && a2 == b2)) w := by
  have q0 := eqD25 a0 a1 b0 b1 9997 w
  simp only [q0, Result.andThen_ok]
  by_cases h0 : a0 = b0 <;> by_cases h1 : a1 = b1 <;> by_cases h2 : a2 = b2 <;> simp [h0, h1, h2]
attribute [local go_sem] eqT25
attribute [local go_sem] eqT31
attribute [local go_sem] eqT27
attribute [local go_sem] eqR27

set_option maxHeartbeats 40000000 in
set_option maxRecDepth 100000 in
theorem laws_big.calls (K : Nat) (a0_A : Option Addr) (a0_c : Nat) (a0 : List (Int)) (r0 : Bool) (w : World) (ha0 : Rd eU8 w a0_A a0) (h : laws_big.f K a0 = some (r0)) :
    Calls Tryz.prog 4 #[.slice a0_A a0.length a0_c] w fun e w' => e = .returned (.bool r0) ∧ Up w w' := by
 have H : (some (decide (4096 < (a0.length : Int))) : Option (Bool)) = some (r0) := h
 clear h
 obtain rfl := Option.some.inj H
 go_enter Tryz.func4, Tryz.ntmps4
 refine wp_hide (fun Qf hQf => ?_)
 refine wsr fun _ hK1=>?_
 refine wpp fun k h=>?_;go_simp;apply h;clear h k
 refine wln (hK1 _ _ ?_)
 refine wsr fun _ hK2=>?_
 iterate 4 (refine wpp fun k h=>?_;go_simp;apply h;clear h k)
 refine wln (hK2 _ _ ?_)
 refine wp_ret ?_
 refine hQf _ _ _ ?_
 exact bpr (v := .bool (decide (4096 < (a0.length : Int)))) ⟨rfl, (Up.refl _)⟩

set_option maxHeartbeats 40000000 in
set_option maxRecDepth 100000 in
theorem spec_l01From.calls (K : Nat) (a0_A : Option Addr) (a0_c : Nat) (a0 : List (Int)) (r0 : Int) (r1 : Int) (w : World) (ha0 : Rd eU8 w a0_A a0) (h : spec_l01From.f K a0 = some (r0, r1)) :
    Calls Tryz.prog 41 #[.slice a0_A a0.length a0_c] w fun e w' => ∃ (br : Nat), e = .returned (.pointer (some ⟨br, 0, none⟩)) ∧ Blk w' br [.slice a0_A a0.length a0_c, .int .i64 r0, .int .u64 r1] 105 ∧ Aside0 (w.heap.size ≤ br) ∧ Up w w' := by
 have H : ((spec_l01From.l0 K a0 K 0 0 (IntKind.u64.wrap (13701 + (IntKind.u64.wrap ((a0.length : Int)))))) : Option (Int × Int)) = some (r0, r1) := h
 clear h
 go_enter Tryz.func41, Tryz.ntmps41
 refine wp_hide (fun Qf hQf => ?_)
 refine wsr fun _ hK1=>?_
 refine wpp fun k h=>?_;go_simp;apply h;clear h k
 refine wln (hK1 _ _ ?_)
 refine wsr fun _ hK2=>?_
 iterate 6 (refine wpp fun k h=>?_;go_simp;apply h;clear h k)
 refine stp (cs := [.slice a0_A a0.length a0_c, .int .i64 0, .int .u64 (IntKind.u64.wrap (13701 + (IntKind.u64.wrap ((a0.length : Int)))))]) (T := 105) ?_
 intro b3 w4 hu5 lbb3 ltb3 hb3
 simp only[nm]
 refine wpp fun k h=>?_;go_simp;apply h;clear h k
 refine wln (hK2 _ _ ?_)
 refine wp_seq_k fun K6 hK6=>?_
 refine wsr fun _ hK7=>?_
 refine wpp fun k h=>?_;go_simp;apply h;clear h k
 refine wln (hK7 _ _ ?_)
 refine wp_block ?_
 have HL14 := Aside0.mk H
 clear H
 go_loopg [4] K (fun kq v4 w' => ∃ (x8 : Int) (x9 : Int) (x10 : Int), v4 = .int .i64 x8 ∧ Aside0 (spec_l01From.l0 K a0 kq x8 x9 x10 = some (r0, r1)) ∧ Aside0 (kq ≤ K) ∧ Aside0 (Up w w') ∧ Aside0 (w4.heap.size ≤ w'.heap.size) ∧ Blk w' b3 [.slice a0_A a0.length a0_c, .int .i64 x9, .int .u64 x10] 105)
 case atStart => exact ⟨0, 0, IntKind.u64.wrap (13701 + (IntKind.u64.wrap ((a0.length : Int)))), (by first | rfl | simp), HL14, ⟨Nat.le_refl _⟩, ⟨hu5.out⟩, ⟨Nat.le_refl _⟩, hb3⟩
 case round =>
  rename_i J18 K19 hJ18 hK19
  obtain ⟨x8, x9, x10, rfl, HL20, hk17, hu12, hz13, h15⟩ := hrel
  obtain ⟨w11, rfl⟩ : ∃ wo : World, wo = wr := ⟨_, rfl⟩
  obtain ⟨k16, rfl⟩ | rfl : (∃ k, gk = k + 1) ∨ gk = 0 := by rcases gk with _ | k; exact .inr rfl; exact .inl ⟨k, rfl⟩
  case inr => exact absurd HL20.out (by simp [spec_l01From.l0])
  have H := HL20.out
  clear HL20
  rw [spec_l01From.l0] at H
  refine wp_seq_k fun K21 hK21=>?_
  refine wsr fun _ hK22=>?_
  iterate 5 (refine wpp fun k h=>?_;go_simp;apply h;clear h k)
  by_cases c23 : (decide (x8 < (a0.length : Int))) = true
  rotate_left
  ·
   rw [if_neg c23] at H; replace c23 := Bool.eq_false_iff.mpr c23
   simp only [Option.some.injEq, Prod.mk.injEq] at H
   obtain ⟨rfl, rfl⟩ := H
   try simp only [c23, Bool.not_true, Bool.not_false]
   refine step_no rfl ?_
   simp only[nm]
   refine step_no rfl ?_
   simp only[nm]
   refine wpp fun k h=>?_;go_simp;apply h;clear h k
   refine wln (hK22 _ _ ?_)
   refine wp_cond_false rfl ?_
   refine wp_exit ?_
   refine hK6 _ _ ?_
   refine wsr fun _ hK39=>?_
   iterate 2 (refine wpp fun k h=>?_;go_simp;apply h;clear h k)
   refine wln (hK39 _ _ ?_)
   refine wp_ret ?_
   refine hQf _ _ _ ?_
   exact bpr (v := .pointer (some ⟨b3, 0, none⟩)) ⟨b3, rfl, h15, ⟨lbb3.out⟩, hu12.out⟩
  rw [if_pos c23] at H
  try simp only [c23, Bool.not_true, Bool.not_false]
  refine wpList_step fun k h=>?_;go_simp;apply h;clear h k
  refine wpList_step fun k h=>?_;go_simp;apply h;clear h k
  refine wpp fun k h=>?_;go_simp;apply h;clear h k
  refine wln (hK22 _ _ ?_)
  by_cases c24 : (decide (x8 < 4096)) = true
  rotate_left
  ·
   rw [if_neg c24] at H; replace c24 := Bool.eq_false_iff.mpr c24
   simp only [Option.some.injEq, Prod.mk.injEq] at H
   obtain ⟨rfl, rfl⟩ := H
   try simp only [c24, Bool.not_true, Bool.not_false]
   refine wp_cond_false rfl ?_
   refine wp_exit ?_
   refine hK6 _ _ ?_
   refine wsr fun _ hK38=>?_
   iterate 2 (refine wpp fun k h=>?_;go_simp;apply h;clear h k)
   refine wln (hK38 _ _ ?_)
   refine wp_ret ?_
   refine hQf _ _ _ ?_
   exact bpr (v := .pointer (some ⟨b3, 0, none⟩)) ⟨b3, rfl, h15, ⟨lbb3.out⟩, hu12.out⟩
  rw [if_pos c24] at H
  obtain ⟨t26,A27,H⟩:=bnd H;try dsimp only at H
  have HL37 := Aside0.mk H
  clear H
  try simp only [c24, Bool.not_true, Bool.not_false]
  refine wp_cond_true rfl ?_
  refine wp_skip ?_
  refine hK21 _ _ ?_
  refine wp_seq_k fun K25 hK25=>?_
  refine wp_block ?_
  obtain ⟨ad28, hat, he⟩ := rd_at (ha0.up hu12.out) A27.out
  have he29 := Aside0.mk he
  have hat31 := Aside0.mk hat
  clear he hat
  refine' wp_region_up 15 [Slot.det _, Slot.det _, Slot.det _, Slot.det _, Slot.det _, Slot.det _, Slot.det _, Slot.det _, Slot.det (.pointer (some ad28)), Slot.det _, Slot.det _, Slot.det _, Slot.det _, Slot.det _, Slot.det _] (by kernel_rfl) (by kernel_rfl) ?main
  case main =>
   simp only [List.take_succ_cons, List.take_zero]
   refine wpK_ops rfl (fun w1 hu => ?_) ?_
   · clear hu
     go_simp
     first | done | rfl
   simp only[nm]
   refine wpK_ops rfl (fun w1 hu => ?_) ?_
   · clear hu
     go_simp
     first | done | rfl
   simp only[nm]
   refine wpK_ops rfl (fun w1 hu => ?_) ?_
   · clear hu
     go_simp
     first | done | rfl
   simp only[nm]
   refine wpK_ops rfl (fun w1 hu => ?_) ?_
   · clear hu
     go_simp
     first | done | rfl
   simp only[nm]
   refine wpK_ops rfl (fun w1 hu => ?_) ?_
   · have cl0 := (h15.up ((Up.refl _).drew.trans hu)).cell (o := 2) rfl
     go_simp
     first | done | rfl
   simp only[nm]
   refine wpK_ops rfl (fun w1 hu => ?_) ?_
   · clear hu
     go_simp
     first | done | rfl
   simp only[nm]
   refine wpK_ops rfl (fun w1 hu => ?_) ?_
   · clear hu
     go_simp
     first | done | rfl
   simp only[nm]
   refine wpK_ops rfl (fun w1 hu => ?_) ?_
   · clear hu
     go_simp
     first | done | rfl
   simp only[nm]
   refine wpK_ops rfl (fun w1 hu => ?_) ?_
   · exact quiet_index eU8 (T := 5) rfl (by kernel_rfl) (by kernel_rfl) rfl rfl rfl hat31.out A27.out
   simp only[nm]
   refine wpK_ops rfl (fun w1 hu => ?_) ?_
   · have cl0 := he29.out 0 _ rfl
     rw [addr_add0] at cl0
     replace cl0 := (((Up.refl _).drew.trans hu)).kept cl0
     go_simp
     first | done | rfl
   simp only[nm]
   refine wpK_ops rfl (fun w1 hu => ?_) ?_
   · clear hu
     go_simp
     first | done | rfl
   simp only[nm]
   refine wpK_ops rfl (fun w1 hu => ?_) ?_
   · clear hu
     go_simp
     first | done | rfl
   simp only[nm]
   refine wpK_ops rfl (fun w1 hu => ?_) ?_
   · clear hu
     go_simp
     first | done | rfl
   simp only[nm]
   refine wpK_ops rfl (fun w1 hu => ?_) ?_
   · clear hu
     go_simp
     first | done | rfl
   simp only[nm]
   refine wpK_ops rfl (fun w1 hu => ?_) ?_
   · clear hu
     go_simp
     first | done | rfl
   simp only[nm]
   refine wpK_nil ?_
   intro w32 hu hap
   simp only [List.drop_succ_cons, List.drop_zero]
   replace hu := (Up.refl _).drew.trans hu
   clear hap
   have hu33 := Aside0.mk hu
   clear hu
   have hB0 := (h15.up hu33.out)
   have cl0 := hB0.cell (o := 2) rfl
   have fr0 := hB0.free 2
   refine step_store (b := b3) (cs' := [.slice a0_A a0.length a0_c, .int .i64 x9, .int .u64 (IntKind.u64.wrap ((IntKind.u64.wrap ((IntKind.u64.wrap (x10 * 1099511628211)) + (IntKind.u64.wrap (t26)))) + 199))]) (T := 105) (W' := (w32.setCell ⟨b3, 2, none⟩ (.int .u64 (IntKind.u64.wrap ((IntKind.u64.wrap ((IntKind.u64.wrap (x10 * 1099511628211)) + (IntKind.u64.wrap (t26)))) + 199))))) rfl rfl (by go_simp <;> rfl) ((Sto.refl _ _).setCell 2 _) ((hB0).setCell 2 _) ?_
   clear hB0 cl0 fr0
   intro w34 hs hb36
   have hs35 := Aside0.mk hs
   clear hs
   refine wln (hK25 _ _ ?_)
   refine wp_region_lit ?_
   iterate 3 (refine wpp fun k h=>?_;go_simp;apply h;clear h k)
   refine wln (hK19 _ _ ?_)
   go_roundg k16
   case measure => exact Nat.lt_succ_self _
   case rel => exact ⟨wrap64 (x8 + 1), x9, IntKind.u64.wrap ((IntKind.u64.wrap ((IntKind.u64.wrap (x10 * 1099511628211)) + (IntKind.u64.wrap (t26)))) + 199), (by first | rfl | simp), HL37, ⟨by have := hk17.out; omega⟩, ⟨((hu12.out.trans hu33.out).sto (Nat.le_trans (Nat.le_refl _) lbb3.out) hs35.out)⟩, ⟨(Nat.le_trans ((Nat.le_trans ((Nat.le_trans (Nat.le_refl _) hz13.out)) hu33.out.size)) (Nat.le_of_eq hs35.out.size.symm))⟩, hb36⟩

set_option maxHeartbeats 40000000 in
set_option maxRecDepth 100000 in
theorem spec_l01Next.calls (K : Nat) (ba0 : Nat) (a0_0_A : Option Addr) (a0_0_c : Nat) (a0_0 : List (Int)) (a0_1 : Int) (a0_2 : Int) (a1 : Int) (r0 : Int) (r1 : Int) (r2 : Int) (w : World) (ha0 : Blk w ba0 [.slice a0_0_A a0_0.length a0_0_c, .int .i64 a0_1, .int .u64 a0_2] 105) (ha0_0 : Rd eU8 w a0_0_A a0_0) (haa0_0 : ∀ k, blk (.slice a0_0_A a0_0.length a0_0_c) = some k → 0 < a0_0.length → k ≠ ba0) (h : spec_l01Next.f K a0_0 a0_1 a0_2 a1 = some (r0, r1, r2)) :
    Calls Tryz.prog 42 #[.pointer (some ⟨ba0, 0, none⟩), .int .i64 a1] w fun e w' => e = .returned (.int .i64 r0) ∧ Blk w' ba0 [.slice a0_0_A a0_0.length a0_0_c, .int .i64 r1, .int .u64 r2] 105 ∧ Grow (.pointer (some ⟨ba0, 0, none⟩)) w w' := by
 have H : ((if decide (a1 < 1) = true then some (0, a0_1, a0_2) else (if decide (a0_1 < (a0_0.length : Int)) = true then ((idx a0_0 a0_1).bind fun t18 => (if (a1 == 0) = true then none else some (Int.tmod (wrap64 ((wrap64 (bits .and .u64 ((IntKind.u64.wrap ((IntKind.u64.wrap (a0_2 * 6364136223846793005)) + 1442695040888963407)) / 8589934592) 16777215)) + (wrap64 (t18)))) a1, wrap64 (a0_1 + 1), IntKind.u64.wrap ((IntKind.u64.wrap (a0_2 * 6364136223846793005)) + 1442695040888963407)))) else (if (a1 == 0) = true then none else some (Int.tmod (wrap64 (bits .and .u64 ((IntKind.u64.wrap ((IntKind.u64.wrap (a0_2 * 6364136223846793005)) + 1442695040888963407)) / 8589934592) 16777215)) a1, a0_1, IntKind.u64.wrap ((IntKind.u64.wrap (a0_2 * 6364136223846793005)) + 1442695040888963407))))) : Option (Int × Int × Int)) = some (r0, r1, r2) := h
 clear h
 have ltba0 := Aside0.mk ha0.lt
 go_enter Tryz.func42, Tryz.ntmps42
 refine wp_hide (fun Qf hQf => ?_)
 refine wsr fun _ hK1=>?_
 refine wpp fun k h=>?_;go_simp;apply h;clear h k
 refine wln (hK1 _ _ ?_)
 refine wp_seq_k fun K2 hK2=>?_
 refine wsr fun _ hK3=>?_
 iterate 2 (refine wpp fun k h=>?_;go_simp;apply h;clear h k)
 refine wln (hK3 _ _ ?_)
 by_cases c4 : (decide (a1 < 1)) = true
 ·
  rw [if_pos c4] at H
  simp only [Option.some.injEq, Prod.mk.injEq] at H
  obtain ⟨rfl, rfl, rfl⟩ := H
  try simp only [c4, Bool.not_true, Bool.not_false]
  refine wp_cond_true rfl ?_
  refine wsr fun _ hK5=>?_
  refine wpp fun k h=>?_;go_simp;apply h;clear h k
  refine wln (hK5 _ _ ?_)
  refine wp_ret ?_
  refine hQf _ _ _ ?_
  exact bpr (v := .int .i64 0) ⟨rfl, ha0, (Grow.refl (.pointer (some ⟨ba0, 0, none⟩)) _)⟩
 rw [if_neg c4] at H; replace c4 := Bool.eq_false_iff.mpr c4
 try simp only [c4, Bool.not_true, Bool.not_false]
 refine wp_cond_false rfl ?_
 refine wp_skip ?_
 refine hK2 _ _ ?_
 refine wsr fun _ hK6=>?_
 iterate 4 (refine wpp fun k h=>?_;go_simp;apply h;clear h k)
 have cl0 := ha0.cell (o := 2) rfl
 refine wpp fun k h=>?_;go_simp;apply h;clear h k
 clear cl0
 iterate 4 (refine wpp fun k h=>?_;go_simp;apply h;clear h k)
 have hB0 := ha0
 have cl0 := hB0.cell (o := 2) rfl
 have fr0 := hB0.free 2
 refine step_store (b := ba0) (cs' := [.slice a0_0_A a0_0.length a0_0_c, .int .i64 a0_1, .int .u64 (IntKind.u64.wrap ((IntKind.u64.wrap (a0_2 * 6364136223846793005)) + 1442695040888963407))]) (T := 105) (W' := (w.setCell ⟨ba0, 2, none⟩ (.int .u64 (IntKind.u64.wrap ((IntKind.u64.wrap (a0_2 * 6364136223846793005)) + 1442695040888963407))))) rfl rfl (by go_simp <;> rfl) ((Sto.refl _ _).setCell 2 _) ((hB0).setCell 2 _) ?_
 clear hB0 cl0 fr0
 intro w7 hs hb9
 have hs8 := Aside0.mk hs
 clear hs
 have h10 := ha0_0.sto hs8.out haa0_0
 refine wln (hK6 _ _ ?_)
 refine wsr fun _ hK11=>?_
 iterate 3 (refine wpp fun k h=>?_;go_simp;apply h;clear h k)
 have cl0 := hb9.cell (o := 2) rfl
 refine wpp fun k h=>?_;go_simp;apply h;clear h k
 clear cl0
 iterate 4 (refine wpp fun k h=>?_;go_simp;apply h;clear h k)
 refine wln (hK11 _ _ ?_)
 refine wp_seq_k fun K12 hK12=>?_
 refine wp_seq_k fun K13 hK13=>?_
 refine' wp_region_up 10 [Slot.det _, Slot.det _, Slot.det _, Slot.det _, Slot.det _, Slot.det _, Slot.det _, Slot.det _, Slot.det _, Slot.det _] (by kernel_rfl) (by kernel_rfl) ?main
 case main =>
  simp only [List.take_succ_cons, List.take_zero]
  refine wpK_ops rfl (fun w1 hu => ?_) ?_
  · clear hu
    go_simp
    first | done | rfl
  simp only[nm]
  refine wpK_ops rfl (fun w1 hu => ?_) ?_
  · clear hu
    go_simp
    first | done | rfl
  simp only[nm]
  refine wpK_ops rfl (fun w1 hu => ?_) ?_
  · clear hu
    go_simp
    first | done | rfl
  simp only[nm]
  refine wpK_ops rfl (fun w1 hu => ?_) ?_
  · have cl0 := (hb9.up ((Up.refl _).drew.trans hu)).cell (o := 1) rfl
    go_simp
    first | done | rfl
  simp only[nm]
  refine wpK_ops rfl (fun w1 hu => ?_) ?_
  · clear hu
    go_simp
    first | done | rfl
  simp only[nm]
  refine wpK_ops rfl (fun w1 hu => ?_) ?_
  · clear hu
    go_simp
    first | done | rfl
  simp only[nm]
  refine wpK_ops rfl (fun w1 hu => ?_) ?_
  · clear hu
    go_simp
    first | done | rfl
  simp only[nm]
  refine wpK_ops rfl (fun w1 hu => ?_) ?_
  · have cl0 := (hb9.up ((Up.refl _).drew.trans hu)).cell (o := 0) rfl
    go_simp
    first | done | rfl
  simp only[nm]
  refine wpK_ops rfl (fun w1 hu => ?_) ?_
  · clear hu
    go_simp
    first | done | rfl
  simp only[nm]
  refine wpK_ops rfl (fun w1 hu => ?_) ?_
  · clear hu
    go_simp
    first | done | rfl
  simp only[nm]
  refine wpK_nil ?_
  intro w14 hu hap
  simp only [List.drop_succ_cons, List.drop_zero]
  replace hu := (Up.refl _).drew.trans hu
  clear hap
  have hu15 := Aside0.mk hu
  clear hu
  refine wln (hK13 _ _ ?_)
  by_cases c16 : (decide (a0_1 < (a0_0.length : Int))) = true
  rotate_left
  ·
   rw [if_neg c16] at H; replace c16 := Bool.eq_false_iff.mpr c16
   try simp only [c16, Bool.not_true, Bool.not_false]
   refine wp_cond_false rfl ?_
   refine wp_skip ?_
   refine hK12 _ _ ?_
   refine wsr fun _ hK33=>?_
   iterate 2 (refine wpp fun k h=>?_;go_simp;apply h;clear h k)
   by_cases c34 : (a1 == 0) = true
   ·
    rw [if_pos c34] at H
    have c34n : (a1 != 0) = false := by rw [bne, c34]; rfl
    exact absurd H (by simp)
   rw [if_neg c34] at H; replace c34 := Bool.eq_false_iff.mpr c34
   have c34n : (a1 != 0) = true := by rw [bne, c34]; rfl
   have c34p : ¬ a1 = 0 := fun e => by simp [e] at c34
   simp only [Option.some.injEq, Prod.mk.injEq] at H
   obtain ⟨rfl, rfl, rfl⟩ := H
   try simp only [c34, c34n, Bool.not_true, Bool.not_false]
   iterate 2 (refine wpp fun k h=>?_;go_simp;apply h;clear h k)
   refine wln (hK33 _ _ ?_)
   refine wp_ret ?_
   refine hQf _ _ _ ?_
   exact bpr (v := .int .i64 (Int.tmod (wrap64 (bits .and .u64 ((IntKind.u64.wrap ((IntKind.u64.wrap (a0_2 * 6364136223846793005)) + 1442695040888963407)) / 8589934592) 16777215)) a1)) ⟨rfl, (hb9.up hu15.out), (((Grow.refl (.pointer (some ⟨ba0, 0, none⟩)) _).trans (Grow.of_sto hs8.out)).trans (Grow.up hu15.out))⟩
  rw [if_pos c16] at H
  obtain ⟨t18,A19,H⟩:=bnd H;try dsimp only at H
  try simp only [c16, Bool.not_true, Bool.not_false]
  refine wp_cond_true rfl ?_
  refine wp_seq_k fun K17 hK17=>?_
  obtain ⟨ad20, hat, he⟩ := rd_at (h10.up hu15.out) A19.out
  have he21 := Aside0.mk he
  have hat23 := Aside0.mk hat
  clear he hat
  refine' wp_region_up 13 [Slot.det _, Slot.det _, Slot.det _, Slot.det _, Slot.det _, Slot.det _, Slot.det _, Slot.det _, Slot.det _, Slot.det (.pointer (some ad20)), Slot.det _, Slot.det _, Slot.det _] (by kernel_rfl) (by kernel_rfl) ?main
  case main =>
   simp only [List.take_succ_cons, List.take_zero]
   refine wpK_ops rfl (fun w1 hu => ?_) ?_
   · clear hu
     go_simp
     first | done | rfl
   simp only[nm]
   refine wpK_ops rfl (fun w1 hu => ?_) ?_
   · clear hu
     go_simp
     first | done | rfl
   simp only[nm]
   refine wpK_ops rfl (fun w1 hu => ?_) ?_
   · clear hu
     go_simp
     first | done | rfl
   simp only[nm]
   refine wpK_ops rfl (fun w1 hu => ?_) ?_
   · clear hu
     go_simp
     first | done | rfl
   simp only[nm]
   refine wpK_ops rfl (fun w1 hu => ?_) ?_
   · have cl0 := ((hb9.up hu15.out).up ((Up.refl _).drew.trans hu)).cell (o := 0) rfl
     go_simp
     first | done | rfl
   simp only[nm]
   refine wpK_ops rfl (fun w1 hu => ?_) ?_
   · clear hu
     go_simp
     first | done | rfl
   simp only[nm]
   refine wpK_ops rfl (fun w1 hu => ?_) ?_
   · clear hu
     go_simp
     first | done | rfl
   simp only[nm]
   refine wpK_ops rfl (fun w1 hu => ?_) ?_
   · clear hu
     go_simp
     first | done | rfl
   simp only[nm]
   refine wpK_ops rfl (fun w1 hu => ?_) ?_
   · have cl0 := ((hb9.up hu15.out).up ((Up.refl _).drew.trans hu)).cell (o := 1) rfl
     go_simp
     first | done | rfl
   simp only[nm]
   refine wpK_ops rfl (fun w1 hu => ?_) ?_
   · exact quiet_index eU8 (T := 5) rfl (by kernel_rfl) (by kernel_rfl) rfl rfl rfl hat23.out A19.out
   simp only[nm]
   refine wpK_ops rfl (fun w1 hu => ?_) ?_
   · have cl0 := he21.out 0 _ rfl
     rw [addr_add0] at cl0
     replace cl0 := (((Up.refl _).drew.trans hu)).kept cl0
     go_simp
     first | done | rfl
   simp only[nm]
   refine wpK_ops rfl (fun w1 hu => ?_) ?_
   · clear hu
     go_simp
     first | done | rfl
   simp only[nm]
   refine wpK_ops rfl (fun w1 hu => ?_) ?_
   · clear hu
     go_simp
     first | done | rfl
   simp only[nm]
   refine wpK_nil ?_
   intro w24 hu hap
   simp only [List.drop_succ_cons, List.drop_zero]
   replace hu := (Up.refl _).drew.trans hu
   clear hap
   have hu25 := Aside0.mk hu
   clear hu
   refine wpp fun k h=>?_;go_simp;apply h;clear h k
   refine wln (hK17 _ _ ?_)
   refine wp_region_lit ?_
   iterate 4 (refine wpp fun k h=>?_;go_simp;apply h;clear h k)
   have cl0 := (hb9.up (hu15.out.trans hu25.out)).cell (o := 1) rfl
   refine wpp fun k h=>?_;go_simp;apply h;clear h k
   clear cl0
   iterate 3 (refine wpp fun k h=>?_;go_simp;apply h;clear h k)
   have hB0 := (hb9.up (hu15.out.trans hu25.out))
   have cl0 := hB0.cell (o := 1) rfl
   have fr0 := hB0.free 1
   refine step_store (b := ba0) (cs' := [.slice a0_0_A a0_0.length a0_0_c, .int .i64 (wrap64 (a0_1 + 1)), .int .u64 (IntKind.u64.wrap ((IntKind.u64.wrap (a0_2 * 6364136223846793005)) + 1442695040888963407))]) (T := 105) (W' := (w24.setCell ⟨ba0, 1, none⟩ (.int .i64 (wrap64 (a0_1 + 1))))) rfl rfl (by go_simp <;> rfl) ((Sto.refl _ _).setCell 1 _) ((hB0).setCell 1 _) ?_
   clear hB0 cl0 fr0
   intro w26 hs hb28
   have hs27 := Aside0.mk hs
   clear hs
   refine wln (hK12 _ _ ?_)
   refine wsr fun _ hK30=>?_
   iterate 2 (refine wpp fun k h=>?_;go_simp;apply h;clear h k)
   by_cases c31 : (a1 == 0) = true
   ·
    rw [if_pos c31] at H
    have c31n : (a1 != 0) = false := by rw [bne, c31]; rfl
    exact absurd H (by simp)
   rw [if_neg c31] at H; replace c31 := Bool.eq_false_iff.mpr c31
   have c31n : (a1 != 0) = true := by rw [bne, c31]; rfl
   have c31p : ¬ a1 = 0 := fun e => by simp [e] at c31
   simp only [Option.some.injEq, Prod.mk.injEq] at H
   obtain ⟨rfl, rfl, rfl⟩ := H
   try simp only [c31, c31n, Bool.not_true, Bool.not_false]
   iterate 2 (refine wpp fun k h=>?_;go_simp;apply h;clear h k)
   refine wln (hK30 _ _ ?_)
   refine wp_ret ?_
   refine hQf _ _ _ ?_
   exact bpr (v := .int .i64 (Int.tmod (wrap64 ((wrap64 (bits .and .u64 ((IntKind.u64.wrap ((IntKind.u64.wrap (a0_2 * 6364136223846793005)) + 1442695040888963407)) / 8589934592) 16777215)) + (wrap64 (t18)))) a1)) ⟨rfl, hb28, (((((Grow.refl (.pointer (some ⟨ba0, 0, none⟩)) _).trans (Grow.of_sto hs8.out)).trans (Grow.up hu15.out)).trans (Grow.up hu25.out)).trans (Grow.of_sto hs27.out))⟩

set_option maxHeartbeats 40000000 in
set_option maxRecDepth 100000 in
theorem spec_l01Pick.calls (K : Nat) (ba0 : Nat) (a0_0_A : Option Addr) (a0_0_c : Nat) (a0_0 : List (Int)) (a0_1 : Int) (a0_2 : Int) (a1_A : Option Addr) (a1_c : Nat) (a1 : List (Int)) (r0 : Int) (r1 : Int) (r2 : Int) (w : World) (ha0 : Blk w ba0 [.slice a0_0_A a0_0.length a0_0_c, .int .i64 a0_1, .int .u64 a0_2] 105) (ha0_0 : Rd eU8 w a0_0_A a0_0) (haa0_0 : ∀ k, blk (.slice a0_0_A a0_0.length a0_0_c) = some k → 0 < a0_0.length → k ≠ ba0) (ha1 : Rd eI w a1_A a1) (haa1 : ∀ k, blk (.slice a1_A a1.length a1_c) = some k → 0 < a1.length → k ≠ ba0) (h : spec_l01Pick.f K a0_0 a0_1 a0_2 a1 = some (r0, r1, r2)) :
    Calls Tryz.prog 44 #[.pointer (some ⟨ba0, 0, none⟩), .slice a1_A a1.length a1_c] w fun e w' => e = .returned (.int .i64 r0) ∧ Blk w' ba0 [.slice a0_0_A a0_0.length a0_0_c, .int .i64 r1, .int .u64 r2] 105 ∧ Grow (.pointer (some ⟨ba0, 0, none⟩)) w w' := by
 have H : (((spec_l01Next.f K a0_0 a0_1 a0_2 (a1.length : Int)).bind fun (t3, t4, t5) => ((idx a1 t3).bind fun t12 => some (t12, t4, t5))) : Option (Int × Int × Int)) = some (r0, r1, r2) := h
 clear h
 obtain ⟨⟨t3, t4, t5⟩,A6,H⟩:=bnd H;try dsimp only at H
 obtain ⟨t12,A13,H⟩:=bnd H;try dsimp only at H
 simp only [Option.some.injEq, Prod.mk.injEq] at H
 obtain ⟨rfl, rfl, rfl⟩ := H
 have ltba0 := Aside0.mk ha0.lt
 go_enter Tryz.func44, Tryz.ntmps44
 refine wp_hide (fun Qf hQf => ?_)
 refine wsr fun _ hK1=>?_
 refine wpp fun k h=>?_;go_simp;apply h;clear h k
 refine wln (hK1 _ _ ?_)
 refine wsr fun _ hK2=>?_
 iterate 4 (refine wpp fun k h=>?_;go_simp;apply h;clear h k)
 refine step_call wn (by go_simp <;> rfl) (spec_l01Next.calls K ba0 a0_0_A a0_0_c a0_0 a0_1 a0_2 (a1.length : Int) t3 t4 t5 w ha0 ha0_0 haa0_0 A6.out) ?_
 rintro e w7 ⟨rfl, h8, hs⟩
 have hs9 := Aside0.mk hs
 clear hs
 have h11 := ha1.growp hs9.out haa1
 refine ⟨_, rfl, ?_⟩
 simp only[nm]
 refine step_index eI (T := 2) wn rfl (by kernel_rfl) (by kernel_rfl) rfl rfl rfl h11 A13.out ?_
 intro ad14 hat he
 have he15 := Aside0.mk he
 have hat16 := Aside0.mk hat
 clear he hat
 simp only[nm]
 have cl0 := he15.out 0 _ rfl
 rw [addr_add0] at cl0
 refine wpp fun k h=>?_;go_simp;apply h;clear h k
 clear cl0
 refine wpp fun k h=>?_;go_simp;apply h;clear h k
 refine wln (hK2 _ _ ?_)
 refine wp_ret ?_
 refine hQf _ _ _ ?_
 exact bpr (v := .int .i64 t12) ⟨rfl, h8, ((Grow.refl (.pointer (some ⟨ba0, 0, none⟩)) _).trans hs9.out)⟩

set_option maxHeartbeats 40000000 in
set_option maxRecDepth 100000 in
theorem spec_l01DrawField.calls (K : Nat) (ba0 : Nat) (a0_0_A : Option Addr) (a0_0_c : Nat) (a0_0 : List (Int)) (a0_1 : Int) (a0_2 : Int) (r0 : Int) (r1 : Int) (r2 : Int) (w : World) (ha0 : Blk w ba0 [.slice a0_0_A a0_0.length a0_0_c, .int .i64 a0_1, .int .u64 a0_2] 105) (ha0_0 : Rd eU8 w a0_0_A a0_0) (haa0_0 : ∀ k, blk (.slice a0_0_A a0_0.length a0_0_c) = some k → 0 < a0_0.length → k ≠ ba0) (h : spec_l01DrawField.f K a0_0 a0_1 a0_2 = some (r0, r1, r2)) :
    Calls Tryz.prog 74 #[.pointer (some ⟨ba0, 0, none⟩)] w fun e w' => e = .returned (.int .i64 r0) ∧ Blk w' ba0 [.slice a0_0_A a0_0.length a0_0_c, .int .i64 r1, .int .u64 r2] 105 ∧ Grow (.pointer (some ⟨ba0, 0, none⟩)) w w' := by
 have H : (((spec_l01Pick.f K a0_0 a0_1 a0_2 ([3, 5, 5, 7, 7, 11, 13, 13, 17, 19, 23, 29, 31])).bind fun (t6, t7, t8) => some (t6, t7, t8)) : Option (Int × Int × Int)) = some (r0, r1, r2) := h
 clear h
 obtain ⟨⟨t6, t7, t8⟩,A9,H⟩:=bnd H;try dsimp only at H
 simp only [Option.some.injEq, Prod.mk.injEq] at H
 obtain ⟨rfl, rfl, rfl⟩ := H
 have ltba0 := Aside0.mk ha0.lt
 go_enter Tryz.func74, Tryz.ntmps74
 refine wp_hide (fun Qf hQf => ?_)
 refine wsr fun _ hK1=>?_
 refine wpp fun k h=>?_;go_simp;apply h;clear h k
 refine wln (hK1 _ _ ?_)
 refine wsr fun _ hK2=>?_
 refine wpp fun k h=>?_;go_simp;apply h;clear h k
 refine step_new (cs := [.int .i64 3, .int .i64 5, .int .i64 5, .int .i64 7, .int .i64 7, .int .i64 11, .int .i64 13, .int .i64 13, .int .i64 17, .int .i64 19, .int .i64 23, .int .i64 29, .int .i64 31]) (T := 2) (f := fun b => .slice (some ⟨b, 0, none⟩) 13 13) rfl (by go_simp <;> rfl) ?_
 intro b3 w4 hu lb hb3
 simp only[nm]
 have lbb3 := Aside0.mk lb
 clear lb
 have hu5 := Aside0.mk hu
 clear hu
 refine step_call wn (by go_simp <;> rfl) (spec_l01Pick.calls K ba0 a0_0_A a0_0_c a0_0 a0_1 a0_2 (some ⟨b3, 0, none⟩) 13 ([3, 5, 5, 7, 7, 11, 13, 13, 17, 19, 23, 29, 31]) t6 t7 t8 w4 (ha0.up hu5.out) (ha0_0.up hu5.out) haa0_0 (Rd.of_blk (E := eI) (xs := [3, 5, 5, 7, 7, 11, 13, 13, 17, 19, 23, 29, 31]) (o := 0) hb3 (by simp) (fun j u hu => by rcases j with j <;> simp_all [Enc.flat, eI])) (fun k hk hp e => (Ne.symm (Nat.ne_of_lt (Nat.lt_of_lt_of_le ltba0.out lbb3.out))) ((Option.some.inj hk).trans e)) A9.out) ?_
 rintro e w10 ⟨rfl, h11, hs⟩
 have hs12 := Aside0.mk hs
 clear hs
 refine ⟨_, rfl, ?_⟩
 simp only[nm]
 refine wpp fun k h=>?_;go_simp;apply h;clear h k
 refine wln (hK2 _ _ ?_)
 refine wp_ret ?_
 refine hQf _ _ _ ?_
 exact bpr (v := .int .i64 t6) ⟨rfl, h11, (((Grow.refl (.pointer (some ⟨ba0, 0, none⟩)) _).trans (Grow.up hu5.out)).trans hs12.out)⟩

set_option maxHeartbeats 40000000 in
set_option maxRecDepth 100000 in
theorem spec_l01DrawPoint.calls (K : Nat) (ba0 : Nat) (a0_0_A : Option Addr) (a0_0_c : Nat) (a0_0 : List (Int)) (a0_1 : Int) (a0_2 : Int) (a1 : Int) (r0 : Int) (r1 : Int) (r2 : Int) (r3 : Int) (w : World) (ha0 : Blk w ba0 [.slice a0_0_A a0_0.length a0_0_c, .int .i64 a0_1, .int .u64 a0_2] 105) (ha0_0 : Rd eU8 w a0_0_A a0_0) (haa0_0 : ∀ k, blk (.slice a0_0_A a0_0.length a0_0_c) = some k → 0 < a0_0.length → k ≠ ba0) (h : spec_l01DrawPoint.f K a0_0 a0_1 a0_2 a1 = some (r0, r1, r2, r3)) :
    Calls Tryz.prog 76 #[.pointer (some ⟨ba0, 0, none⟩), .int .i64 a1] w fun e w' => e = .returned (.agg #[.int .i64 r0, .int .i64 r1]) ∧ Blk w' ba0 [.slice a0_0_A a0_0.length a0_0_c, .int .i64 r2, .int .u64 r3] 105 ∧ Grow (.pointer (some ⟨ba0, 0, none⟩)) w w' := by
 have H : (((spec_l01Next.f K a0_0 a0_1 a0_2 4).bind fun (t7, t8, t9) => (if (t7 == 0) = true then ((spec_l01Next.f K a0_0 t8 t9 3).bind fun (t18, t19, t20) => ((spec_l01Next.f K a0_0 t19 t20 3).bind fun (t27, t28, t29) => some (t18, t27, t28, t29))) else ((spec_l01Next.f K a0_0 t8 t9 a1).bind fun (t42, t43, t44) => ((spec_l01Next.f K a0_0 t43 t44 a1).bind fun (t51, t52, t53) => some (t42, t51, t52, t53))))) : Option (Int × Int × Int × Int)) = some (r0, r1, r2, r3) := h
 clear h
 obtain ⟨⟨t7, t8, t9⟩,A10,H⟩:=bnd H;try dsimp only at H
 have ltba0 := Aside0.mk ha0.lt
 go_enter Tryz.func76, Tryz.ntmps76
 refine wp_hide (fun Qf hQf => ?_)
 refine wsr fun _ hK1=>?_
 refine stp (cs := [.int .i64 0, .int .i64 0]) (T := 25) ?_
 intro b2 w3 hu4 lbb2 ltb2 hb2
 simp only[nm]
 refine wln (hK1 _ _ ?_)
 refine wp_seq_k fun K5 hK5=>?_
 refine wsr fun _ hK6=>?_
 refine wpp fun k h=>?_;go_simp;apply h;clear h k
 refine step_call wn (by go_simp <;> rfl) (spec_l01Next.calls K ba0 a0_0_A a0_0_c a0_0 a0_1 a0_2 4 t7 t8 t9 w3 (ha0.up hu4.out) (ha0_0.up hu4.out) haa0_0 A10.out) ?_
 rintro e w11 ⟨rfl, h12, hs⟩
 have hs13 := Aside0.mk hs
 clear hs
 have h14 := (ha0_0.up hu4.out).growp hs13.out haa0_0
 have h15 := hb2.grow hs13.out (fun k hk e => (Nat.ne_of_lt (Nat.lt_of_lt_of_le ltba0.out lbb2.out)) ((Option.some.inj hk).trans e))
 refine ⟨_, rfl, ?_⟩
 simp only[nm]
 refine wpp fun k h=>?_;go_simp;apply h;clear h k
 refine wln (hK6 _ _ ?_)
 by_cases c16 : (t7 == 0) = true
 ·
  rw [if_pos c16] at H
  have c16n : (t7 != 0) = false := by rw [bne, c16]; rfl
  obtain ⟨⟨t18, t19, t20⟩,A21,H⟩:=bnd H;try dsimp only at H
  obtain ⟨⟨t27, t28, t29⟩,A30,H⟩:=bnd H;try dsimp only at H
  simp only [Option.some.injEq, Prod.mk.injEq] at H
  obtain ⟨rfl, rfl, rfl, rfl⟩ := H
  try simp only [c16, c16n, Bool.not_true, Bool.not_false]
  refine wp_cond_true rfl ?_
  refine wsr fun _ hK17=>?_
  refine wpp fun k h=>?_;go_simp;apply h;clear h k
  refine step_call wn (by go_simp <;> rfl) (spec_l01Next.calls K ba0 a0_0_A a0_0_c a0_0 t8 t9 3 t18 t19 t20 w11 h12 h14 haa0_0 A21.out) ?_
  rintro e w22 ⟨rfl, h23, hs⟩
  have hs24 := Aside0.mk hs
  clear hs
  have h25 := h14.growp hs24.out haa0_0
  have h26 := h15.grow hs24.out (fun k hk e => (Nat.ne_of_lt (Nat.lt_of_lt_of_le ltba0.out lbb2.out)) ((Option.some.inj hk).trans e))
  refine ⟨_, rfl, ?_⟩
  simp only[nm]
  refine wpp fun k h=>?_;go_simp;apply h;clear h k
  refine step_call wn (by go_simp <;> rfl) (spec_l01Next.calls K ba0 a0_0_A a0_0_c a0_0 t19 t20 3 t27 t28 t29 w22 h23 h25 haa0_0 A30.out) ?_
  rintro e w31 ⟨rfl, h32, hs⟩
  have hs33 := Aside0.mk hs
  clear hs
  have h35 := h26.grow hs33.out (fun k hk e => (Nat.ne_of_lt (Nat.lt_of_lt_of_le ltba0.out lbb2.out)) ((Option.some.inj hk).trans e))
  refine ⟨_, rfl, ?_⟩
  simp only[nm]
  refine wpp fun k h=>?_;go_simp;apply h;clear h k
  refine stw [.int .i64 t18, .int .i64 t27] h35 rfl rfl rfl rfl rfl (by kernel_rfl) rfl rfl ?_
  intro w36 hs37 hb38
  have h39 := h32.sto hs37.out (Nat.ne_of_lt (Nat.lt_of_lt_of_le ltba0.out lbb2.out))
  refine wln (hK17 _ _ ?_)
  refine wp_ret ?_
  refine hQf _ _ _ ?_
  have cr0 := hb38.cell (o := 0) rfl
  have cr1 := hb38.cell (o := 1) rfl
  exact bodyPost_ret (v := .agg #[.int .i64 t18, .int .i64 t27]) (by first|rfl|simp [results, Tryz.results76, go_sem, cr0, cr1]<;>rfl) rfl ⟨rfl, h39, (Grow.sto_young (((((Grow.refl (.pointer (some ⟨ba0, 0, none⟩)) _).trans (Grow.up hu4.out)).trans hs13.out).trans hs24.out).trans hs33.out) hs37.out (Nat.le_trans (Nat.le_refl _) lbb2.out))⟩
 rw [if_neg c16] at H; replace c16 := Bool.eq_false_iff.mpr c16
 have c16n : (t7 != 0) = true := by rw [bne, c16]; rfl
 have c16p : ¬ t7 = 0 := fun e => by simp [e] at c16
 obtain ⟨⟨t42, t43, t44⟩,A45,H⟩:=bnd H;try dsimp only at H
 obtain ⟨⟨t51, t52, t53⟩,A54,H⟩:=bnd H;try dsimp only at H
 simp only [Option.some.injEq, Prod.mk.injEq] at H
 obtain ⟨rfl, rfl, rfl, rfl⟩ := H
 try simp only [c16, c16n, Bool.not_true, Bool.not_false]
 refine wp_cond_false rfl ?_
 refine wp_skip ?_
 refine hK5 _ _ ?_
 refine wsr fun _ hK41=>?_
 iterate 2 (refine wpp fun k h=>?_;go_simp;apply h;clear h k)
 refine step_call wn (by go_simp <;> rfl) (spec_l01Next.calls K ba0 a0_0_A a0_0_c a0_0 t8 t9 a1 t42 t43 t44 w11 h12 h14 haa0_0 A45.out) ?_
 rintro e w46 ⟨rfl, h47, hs⟩
 have hs48 := Aside0.mk hs
 clear hs
 have h49 := h14.growp hs48.out haa0_0
 have h50 := h15.grow hs48.out (fun k hk e => (Nat.ne_of_lt (Nat.lt_of_lt_of_le ltba0.out lbb2.out)) ((Option.some.inj hk).trans e))
 refine ⟨_, rfl, ?_⟩
 simp only[nm]
 iterate 2 (refine wpp fun k h=>?_;go_simp;apply h;clear h k)
 refine step_call wn (by go_simp <;> rfl) (spec_l01Next.calls K ba0 a0_0_A a0_0_c a0_0 t43 t44 a1 t51 t52 t53 w46 h47 h49 haa0_0 A54.out) ?_
 rintro e w55 ⟨rfl, h56, hs⟩
 have hs57 := Aside0.mk hs
 clear hs
 have h59 := h50.grow hs57.out (fun k hk e => (Nat.ne_of_lt (Nat.lt_of_lt_of_le ltba0.out lbb2.out)) ((Option.some.inj hk).trans e))
 refine ⟨_, rfl, ?_⟩
 simp only[nm]
 refine wpp fun k h=>?_;go_simp;apply h;clear h k
 refine stw [.int .i64 t42, .int .i64 t51] h59 rfl rfl rfl rfl rfl (by kernel_rfl) rfl rfl ?_
 intro w60 hs61 hb62
 have h63 := h56.sto hs61.out (Nat.ne_of_lt (Nat.lt_of_lt_of_le ltba0.out lbb2.out))
 refine wln (hK41 _ _ ?_)
 refine wp_ret ?_
 refine hQf _ _ _ ?_
 have cr0 := hb62.cell (o := 0) rfl
 have cr1 := hb62.cell (o := 1) rfl
 exact bodyPost_ret (v := .agg #[.int .i64 t42, .int .i64 t51]) (by first|rfl|simp [results, Tryz.results76, go_sem, cr0, cr1]<;>rfl) rfl ⟨rfl, h63, (Grow.sto_young (((((Grow.refl (.pointer (some ⟨ba0, 0, none⟩)) _).trans (Grow.up hu4.out)).trans hs13.out).trans hs48.out).trans hs57.out) hs61.out (Nat.le_trans (Nat.le_refl _) lbb2.out))⟩

set_option maxHeartbeats 40000000 in
set_option maxRecDepth 100000 in
theorem spec_l06DrawOf.calls (K : Nat) (ba0 : Nat) (a0_0_A : Option Addr) (a0_0_c : Nat) (a0_0 : List (Int)) (a0_1 : Int) (a0_2 : Int) (a1 : Int) (r0 : Int) (r1 : Int) (r2 : Int) (r3 : Int) (r4 : Int) (w : World) (ha0 : Blk w ba0 [.slice a0_0_A a0_0.length a0_0_c, .int .i64 a0_1, .int .u64 a0_2] 105) (ha0_0 : Rd eU8 w a0_0_A a0_0) (haa0_0 : ∀ k, blk (.slice a0_0_A a0_0.length a0_0_c) = some k → 0 < a0_0.length → k ≠ ba0) (h : spec_l06DrawOf.f K a0_0 a0_1 a0_2 a1 = some (r0, r1, r2, r3, r4)) :
    Calls Tryz.prog 75 #[.pointer (some ⟨ba0, 0, none⟩), .int .i64 a1] w fun e w' => e = .returned (.agg #[.int .i64 r0, .int .i64 r1, .int .i64 r2]) ∧ Blk w' ba0 [.slice a0_0_A a0_0.length a0_0_c, .int .i64 r3, .int .u64 r4] 105 ∧ Grow (.pointer (some ⟨ba0, 0, none⟩)) w w' := by
 have H : (((spec_l01DrawPoint.f K a0_0 a0_1 a0_2 a1).bind fun (t6, t7, t8, t9) => ((spec_l01Next.f K a0_0 t8 t9 a1).bind fun (t16, t17, t18) => some (t6, t7, t16, t17, t18))) : Option (Int × Int × Int × Int × Int)) = some (r0, r1, r2, r3, r4) := h
 clear h
 obtain ⟨⟨t6, t7, t8, t9⟩,A10,H⟩:=bnd H;try dsimp only at H
 obtain ⟨⟨t16, t17, t18⟩,A19,H⟩:=bnd H;try dsimp only at H
 simp only [Option.some.injEq, Prod.mk.injEq] at H
 obtain ⟨rfl, rfl, rfl, rfl, rfl⟩ := H
 have ltba0 := Aside0.mk ha0.lt
 go_enter Tryz.func75, Tryz.ntmps75
 refine wp_hide (fun Qf hQf => ?_)
 refine wsr fun _ hK1=>?_
 refine stp (cs := [.int .i64 0, .int .i64 0, .int .i64 0]) (T := 27) ?_
 intro b2 w3 hu4 lbb2 ltb2 hb2
 simp only[nm]
 refine wln (hK1 _ _ ?_)
 refine wsr fun _ hK5=>?_
 iterate 2 (refine wpp fun k h=>?_;go_simp;apply h;clear h k)
 refine step_call wn (by go_simp <;> rfl) (spec_l01DrawPoint.calls K ba0 a0_0_A a0_0_c a0_0 a0_1 a0_2 a1 t6 t7 t8 t9 w3 (ha0.up hu4.out) (ha0_0.up hu4.out) haa0_0 A10.out) ?_
 rintro e w11 ⟨rfl, h12, hs⟩
 have hs13 := Aside0.mk hs
 clear hs
 have h14 := (ha0_0.up hu4.out).growp hs13.out haa0_0
 have h15 := hb2.grow hs13.out (fun k hk e => (Nat.ne_of_lt (Nat.lt_of_lt_of_le ltba0.out lbb2.out)) ((Option.some.inj hk).trans e))
 refine ⟨_, rfl, ?_⟩
 simp only[nm]
 iterate 2 (refine wpp fun k h=>?_;go_simp;apply h;clear h k)
 refine step_call wn (by go_simp <;> rfl) (spec_l01Next.calls K ba0 a0_0_A a0_0_c a0_0 t8 t9 a1 t16 t17 t18 w11 h12 h14 haa0_0 A19.out) ?_
 rintro e w20 ⟨rfl, h21, hs⟩
 have hs22 := Aside0.mk hs
 clear hs
 have h24 := h15.grow hs22.out (fun k hk e => (Nat.ne_of_lt (Nat.lt_of_lt_of_le ltba0.out lbb2.out)) ((Option.some.inj hk).trans e))
 refine ⟨_, rfl, ?_⟩
 simp only[nm]
 refine wpp fun k h=>?_;go_simp;apply h;clear h k
 refine stw [.int .i64 t6, .int .i64 t7, .int .i64 t16] h24 rfl rfl rfl rfl rfl (by kernel_rfl) rfl rfl ?_
 intro w25 hs26 hb27
 have h28 := h21.sto hs26.out (Nat.ne_of_lt (Nat.lt_of_lt_of_le ltba0.out lbb2.out))
 refine wln (hK5 _ _ ?_)
 refine wp_ret ?_
 refine hQf _ _ _ ?_
 have cr0 := hb27.cell (o := 0) rfl
 have cr1 := hb27.cell (o := 1) rfl
 have cr2 := hb27.cell (o := 2) rfl
 exact bodyPost_ret (v := .agg #[.int .i64 t6, .int .i64 t7, .int .i64 t16]) (by first|rfl|simp [results, Tryz.results75, go_sem, cr0, cr1, cr2]<;>rfl) rfl ⟨rfl, h28, (Grow.sto_young ((((Grow.refl (.pointer (some ⟨ba0, 0, none⟩)) _).trans (Grow.up hu4.out)).trans hs13.out).trans hs22.out) hs26.out (Nat.le_trans (Nat.le_refl _) lbb2.out))⟩

set_option maxHeartbeats 40000000 in
set_option maxRecDepth 100000 in
theorem spec_l02DrawColour.calls (K : Nat) (ba0 : Nat) (a0_0_A : Option Addr) (a0_0_c : Nat) (a0_0 : List (Int)) (a0_1 : Int) (a0_2 : Int) (r0 : Int) (r1 : Int) (r2 : Int) (w : World) (ha0 : Blk w ba0 [.slice a0_0_A a0_0.length a0_0_c, .int .i64 a0_1, .int .u64 a0_2] 105) (ha0_0 : Rd eU8 w a0_0_A a0_0) (haa0_0 : ∀ k, blk (.slice a0_0_A a0_0.length a0_0_c) = some k → 0 < a0_0.length → k ≠ ba0) (h : spec_l02DrawColour.f K a0_0 a0_1 a0_2 = some (r0, r1, r2)) :
    Calls Tryz.prog 77 #[.pointer (some ⟨ba0, 0, none⟩)] w fun e w' => e = .returned (.int .i64 r0) ∧ Blk w' ba0 [.slice a0_0_A a0_0.length a0_0_c, .int .i64 r1, .int .u64 r2] 105 ∧ Grow (.pointer (some ⟨ba0, 0, none⟩)) w w' := by
 have H : (((spec_l01Next.f K a0_0 a0_1 a0_2 40).bind fun (t4, t5, t6) => (if (t4 == 0) = true then ((spec_l01Pick.f K a0_0 t5 t6 ([(-1), 3, 1099511627776])).bind fun (t17, t18, t19) => some (t17, t18, t19)) else ((spec_l01Next.f K a0_0 t5 t6 3).bind fun (t27, t28, t29) => some (t27, t28, t29)))) : Option (Int × Int × Int)) = some (r0, r1, r2) := h
 clear h
 obtain ⟨⟨t4, t5, t6⟩,A7,H⟩:=bnd H;try dsimp only at H
 have ltba0 := Aside0.mk ha0.lt
 go_enter Tryz.func77, Tryz.ntmps77
 refine wp_hide (fun Qf hQf => ?_)
 refine wsr fun _ hK1=>?_
 refine wpp fun k h=>?_;go_simp;apply h;clear h k
 refine wln (hK1 _ _ ?_)
 refine wp_seq_k fun K2 hK2=>?_
 refine wsr fun _ hK3=>?_
 refine wpp fun k h=>?_;go_simp;apply h;clear h k
 refine step_call wn (by go_simp <;> rfl) (spec_l01Next.calls K ba0 a0_0_A a0_0_c a0_0 a0_1 a0_2 40 t4 t5 t6 w ha0 ha0_0 haa0_0 A7.out) ?_
 rintro e w8 ⟨rfl, h9, hs⟩
 have hs10 := Aside0.mk hs
 clear hs
 have h11 := ha0_0.growp hs10.out haa0_0
 refine ⟨_, rfl, ?_⟩
 simp only[nm]
 refine wpp fun k h=>?_;go_simp;apply h;clear h k
 refine wln (hK3 _ _ ?_)
 by_cases c12 : (t4 == 0) = true
 rotate_left
 ·
  rw [if_neg c12] at H; replace c12 := Bool.eq_false_iff.mpr c12
  have c12n : (t4 != 0) = true := by rw [bne, c12]; rfl
  have c12p : ¬ t4 = 0 := fun e => by simp [e] at c12
  obtain ⟨⟨t27, t28, t29⟩,A30,H⟩:=bnd H;try dsimp only at H
  simp only [Option.some.injEq, Prod.mk.injEq] at H
  obtain ⟨rfl, rfl, rfl⟩ := H
  try simp only [c12, c12n, Bool.not_true, Bool.not_false]
  refine wp_cond_false rfl ?_
  refine wp_skip ?_
  refine hK2 _ _ ?_
  refine wsr fun _ hK26=>?_
  refine wpp fun k h=>?_;go_simp;apply h;clear h k
  refine step_call wn (by go_simp <;> rfl) (spec_l01Next.calls K ba0 a0_0_A a0_0_c a0_0 t5 t6 3 t27 t28 t29 w8 h9 h11 haa0_0 A30.out) ?_
  rintro e w31 ⟨rfl, h32, hs⟩
  have hs33 := Aside0.mk hs
  clear hs
  refine ⟨_, rfl, ?_⟩
  simp only[nm]
  refine wpp fun k h=>?_;go_simp;apply h;clear h k
  refine wln (hK26 _ _ ?_)
  refine wp_ret ?_
  refine hQf _ _ _ ?_
  exact bpr (v := .int .i64 t27) ⟨rfl, h32, (((Grow.refl (.pointer (some ⟨ba0, 0, none⟩)) _).trans hs10.out).trans hs33.out)⟩
 rw [if_pos c12] at H
 have c12n : (t4 != 0) = false := by rw [bne, c12]; rfl
 obtain ⟨⟨t17, t18, t19⟩,A20,H⟩:=bnd H;try dsimp only at H
 simp only [Option.some.injEq, Prod.mk.injEq] at H
 obtain ⟨rfl, rfl, rfl⟩ := H
 try simp only [c12, c12n, Bool.not_true, Bool.not_false]
 refine wp_cond_true rfl ?_
 refine wsr fun _ hK13=>?_
 refine wpp fun k h=>?_;go_simp;apply h;clear h k
 refine step_new (cs := [.int .i64 (-1), .int .i64 3, .int .i64 1099511627776]) (T := 2) (f := fun b => .slice (some ⟨b, 0, none⟩) 3 3) rfl (by go_simp <;> rfl) ?_
 intro b14 w15 hu lb hb14
 simp only[nm]
 have lbb14 := Aside0.mk lb
 clear lb
 have hu16 := Aside0.mk hu
 clear hu
 refine step_call wn (by go_simp <;> rfl) (spec_l01Pick.calls K ba0 a0_0_A a0_0_c a0_0 t5 t6 (some ⟨b14, 0, none⟩) 3 ([(-1), 3, 1099511627776]) t17 t18 t19 w15 (h9.up hu16.out) (h11.up hu16.out) haa0_0 (Rd.of_blk (E := eI) (xs := [(-1), 3, 1099511627776]) (o := 0) hb14 (by simp) (fun j u hu => by rcases j with _ | _ | _ | j <;> simp_all [Enc.flat, eI])) (fun k hk hp e => (Ne.symm (Nat.ne_of_lt (Nat.lt_of_lt_of_le (Nat.lt_of_lt_of_le ltba0.out (hs10.out.size)) lbb14.out))) ((Option.some.inj hk).trans e)) A20.out) ?_
 rintro e w21 ⟨rfl, h22, hs⟩
 have hs23 := Aside0.mk hs
 clear hs
 refine ⟨_, rfl, ?_⟩
 simp only[nm]
 refine wpp fun k h=>?_;go_simp;apply h;clear h k
 refine wln (hK13 _ _ ?_)
 refine wp_ret ?_
 refine hQf _ _ _ ?_
 exact bpr (v := .int .i64 t17) ⟨rfl, h22, ((((Grow.refl (.pointer (some ⟨ba0, 0, none⟩)) _).trans hs10.out).trans (Grow.up hu16.out)).trans hs23.out)⟩

set_option maxHeartbeats 40000000 in
set_option maxRecDepth 100000 in
theorem spec_l01In.calls (K : Nat) (a0 : Int) (a1 : Int) (a2 : Int) (r0 : Bool) (w : World)  (h : spec_l01In.f K a0 a1 a2 = some (r0)) :
    Calls Tryz.prog 103 #[.int .i64 a0, .int .i64 a1, .int .i64 a2] w fun e w' => e = .returned (.bool r0) ∧ Up w w' := by
 have H : ((if decide (a1 ≤ a0) = true then some (decide (a0 ≤ a2)) else some false) : Option (Bool)) = some (r0) := h
 clear h
 go_enter Tryz.func103, Tryz.ntmps103
 refine wp_hide (fun Qf hQf => ?_)
 refine wsr fun _ hK1=>?_
 refine wpp fun k h=>?_;go_simp;apply h;clear h k
 refine wln (hK1 _ _ ?_)
 refine wsr fun _ hK2=>?_
 iterate 4 (refine wpp fun k h=>?_;go_simp;apply h;clear h k)
 by_cases c3 : (decide (a1 ≤ a0)) = true
 ·
  rw [if_pos c3] at H
  obtain rfl := Option.some.inj H
  try simp only [c3, Bool.not_true, Bool.not_false]
  refine wpList_step fun k h=>?_;go_simp;apply h;clear h k
  refine wpList_step fun k h=>?_;go_simp;apply h;clear h k
  refine wpList_step fun k h=>?_;go_simp;apply h;clear h k
  iterate 2 (refine wpp fun k h=>?_;go_simp;apply h;clear h k)
  refine wln (hK2 _ _ ?_)
  refine wp_ret ?_
  refine hQf _ _ _ ?_
  exact bpr (v := .bool (decide (a0 ≤ a2))) ⟨rfl, (Up.refl _)⟩
 rw [if_neg c3] at H; replace c3 := Bool.eq_false_iff.mpr c3
 obtain rfl := Option.some.inj H
 try simp only [c3, Bool.not_true, Bool.not_false]
 refine step_no rfl ?_
 simp only[nm]
 refine step_no rfl ?_
 simp only[nm]
 refine step_no rfl ?_
 simp only[nm]
 iterate 2 (refine wpp fun k h=>?_;go_simp;apply h;clear h k)
 refine wln (hK2 _ _ ?_)
 refine wp_ret ?_
 refine hQf _ _ _ ?_
 exact bpr (v := .bool false) ⟨rfl, (Up.refl _)⟩

set_option maxHeartbeats 40000000 in
set_option maxRecDepth 100000 in
theorem spec_l02Colour.calls (K : Nat) (a0 : Int) (r0 : Bool) (w : World)  (h : spec_l02Colour.f K a0 = some (r0)) :
    Calls Tryz.prog 78 #[.int .i64 a0] w fun e w' => e = .returned (.bool r0) ∧ Up w w' := by
 have H : (((spec_l01In.f K a0 0 2).bind fun t3 => some t3) : Option (Bool)) = some (r0) := h
 clear h
 obtain ⟨t3,A4,H⟩:=bnd H;try dsimp only at H
 obtain rfl := Option.some.inj H
 go_enter Tryz.func78, Tryz.ntmps78
 refine wp_hide (fun Qf hQf => ?_)
 refine wsr fun _ hK1=>?_
 refine wpp fun k h=>?_;go_simp;apply h;clear h k
 refine wln (hK1 _ _ ?_)
 refine wsr fun _ hK2=>?_
 refine wpp fun k h=>?_;go_simp;apply h;clear h k
 refine stc (spec_l01In.calls K a0 0 2 t3 w  A4.out) ?_
 intro w5 hu6
 simp only[nm]
 refine wpp fun k h=>?_;go_simp;apply h;clear h k
 refine wln (hK2 _ _ ?_)
 refine wp_ret ?_
 refine hQf _ _ _ ?_
 exact bpr (v := .bool t3) ⟨rfl, hu6.out⟩

set_option maxHeartbeats 40000000 in
set_option maxRecDepth 100000 in
theorem spec_l01Mod.calls (K : Nat) (a0 : Int) (a1 : Int) (r0 : Int) (w : World)  (h : spec_l01Mod.f K a0 a1 = some (r0)) :
    Calls Tryz.prog 60 #[.int .i64 a0, .int .i64 a1] w fun e w' => e = .returned (.int .i64 r0) ∧ Up w w' := by
 have H : ((if (a1 == 0) = true then none else some (Int.tmod (wrap64 ((Int.tmod a0 a1) + a1)) a1)) : Option (Int)) = some (r0) := h
 clear h
 go_enter Tryz.func60, Tryz.ntmps60
 refine wp_hide (fun Qf hQf => ?_)
 refine wsr fun _ hK1=>?_
 refine wpp fun k h=>?_;go_simp;apply h;clear h k
 refine wln (hK1 _ _ ?_)
 refine wsr fun _ hK2=>?_
 iterate 2 (refine wpp fun k h=>?_;go_simp;apply h;clear h k)
 by_cases c3 : (a1 == 0) = true
 ·
  rw [if_pos c3] at H
  have c3n : (a1 != 0) = false := by rw [bne, c3]; rfl
  exact absurd H (by simp)
 rw [if_neg c3] at H; replace c3 := Bool.eq_false_iff.mpr c3
 have c3n : (a1 != 0) = true := by rw [bne, c3]; rfl
 have c3p : ¬ a1 = 0 := fun e => by simp [e] at c3
 obtain rfl := Option.some.inj H
 try simp only [c3, c3n, Bool.not_true, Bool.not_false]
 iterate 6 (refine wpp fun k h=>?_;go_simp;apply h;clear h k)
 refine wln (hK2 _ _ ?_)
 refine wp_ret ?_
 refine hQf _ _ _ ?_
 exact bpr (v := .int .i64 (Int.tmod (wrap64 ((Int.tmod a0 a1) + a1)) a1)) ⟨rfl, (Up.refl _)⟩

set_option maxHeartbeats 40000000 in
set_option maxRecDepth 100000 in
theorem spec_l01Minus.calls (K : Nat) (a0 : Int) (a1_0 : Int) (a1_1 : Int) (a2_0 : Int) (a2_1 : Int) (r0 : Int) (r1 : Int) (w : World)  (h : spec_l01Minus.f K a0 a1_0 a1_1 a2_0 a2_1 = some (r0, r1)) :
    Calls Tryz.prog 64 #[.int .i64 a0, .agg #[.int .i64 a1_0, .int .i64 a1_1], .agg #[.int .i64 a2_0, .int .i64 a2_1]] w fun e w' => e = .returned (.agg #[.int .i64 r0, .int .i64 r1]) ∧ Up w w' := by
 have H : (((spec_l01Mod.f K (wrap64 (a1_0 - a2_0)) a0).bind fun t12 => ((spec_l01Mod.f K (wrap64 (a1_1 - a2_1)) a0).bind fun t14 => some (t12, t14))) : Option (Int × Int)) = some (r0, r1) := h
 clear h
 obtain ⟨t12,A13,H⟩:=bnd H;try dsimp only at H
 obtain ⟨t14,A15,H⟩:=bnd H;try dsimp only at H
 simp only [Option.some.injEq, Prod.mk.injEq] at H
 obtain ⟨rfl, rfl⟩ := H
 go_enter Tryz.func64, Tryz.ntmps64
 refine wp_hide (fun Qf hQf => ?_)
 refine wsr fun _ hK1=>?_
 refine stp (cs := [.int .i64 a1_0, .int .i64 a1_1]) (T := 25) ?_
 intro b2 w3 hu4 lbb2 ltb2 hb2
 simp only[nm]
 refine stp (cs := [.int .i64 a2_0, .int .i64 a2_1]) (T := 25) ?_
 intro b5 w6 hu7 lbb5 ltb5 hb5
 simp only[nm]
 refine stp (cs := [.int .i64 0, .int .i64 0]) (T := 25) ?_
 intro b8 w9 hu10 lbb8 ltb8 hb8
 simp only[nm]
 refine wln (hK1 _ _ ?_)
 refine wp_seq_k fun K11 hK11=>?_
 refine' wp_region_up 15 [Slot.det _, Slot.det _, Slot.det _, Slot.det _, Slot.det _, Slot.det _, Slot.det (.int .i64 t12), Slot.det _, Slot.det _, Slot.det _, Slot.det _, Slot.det _, Slot.det _, Slot.det (.int .i64 t14), Slot.det _] (by kernel_rfl) (by kernel_rfl) ?main
 case main =>
  simp only [List.take_succ_cons, List.take_zero]
  refine wpK_ops rfl (fun w1 hu => ?_) ?_
  · clear hu
    go_simp
    first | done | rfl
  simp only[nm]
  refine wpK_ops rfl (fun w1 hu => ?_) ?_
  · have cl0 := ((hb2.up (hu7.out.trans hu10.out)).up ((Up.refl _).drew.trans hu)).cell (o := 0) rfl
    go_simp
    first | done | rfl
  simp only[nm]
  refine wpK_ops rfl (fun w1 hu => ?_) ?_
  · clear hu
    go_simp
    first | done | rfl
  simp only[nm]
  refine wpK_ops rfl (fun w1 hu => ?_) ?_
  · have cl0 := ((hb5.up hu10.out).up ((Up.refl _).drew.trans hu)).cell (o := 0) rfl
    go_simp
    first | done | rfl
  simp only[nm]
  refine wpK_ops rfl (fun w1 hu => ?_) ?_
  · clear hu
    go_simp
    first | done | rfl
  simp only[nm]
  refine wpK_ops rfl (fun w1 hu => ?_) ?_
  · clear hu
    go_simp
    first | done | rfl
  simp only[nm]
  refine wpK_ops rfl (fun w1 hu => ?_) ?_
  · have hcl := (spec_l01Mod.calls K (wrap64 (a1_0 - a2_0)) a0 t12 w1  A13.out)
    clear hu
    replace hcl := Aside0.mk hcl
    go_simp
    exact hcl.out
  simp only[nm]
  refine wpK_ops rfl (fun w1 hu => ?_) ?_
  · clear hu
    go_simp
    first | done | rfl
  simp only[nm]
  refine wpK_ops rfl (fun w1 hu => ?_) ?_
  · have cl0 := ((hb2.up (hu7.out.trans hu10.out)).up ((Up.refl _).drew.trans hu)).cell (o := 1) rfl
    go_simp
    first | done | rfl
  simp only[nm]
  refine wpK_ops rfl (fun w1 hu => ?_) ?_
  · clear hu
    go_simp
    first | done | rfl
  simp only[nm]
  refine wpK_ops rfl (fun w1 hu => ?_) ?_
  · have cl0 := ((hb5.up hu10.out).up ((Up.refl _).drew.trans hu)).cell (o := 1) rfl
    go_simp
    first | done | rfl
  simp only[nm]
  refine wpK_ops rfl (fun w1 hu => ?_) ?_
  · clear hu
    go_simp
    first | done | rfl
  simp only[nm]
  refine wpK_ops rfl (fun w1 hu => ?_) ?_
  · clear hu
    go_simp
    first | done | rfl
  simp only[nm]
  refine wpK_ops rfl (fun w1 hu => ?_) ?_
  · have hcl := (spec_l01Mod.calls K (wrap64 (a1_1 - a2_1)) a0 t14 w1  A15.out)
    clear hu
    replace hcl := Aside0.mk hcl
    go_simp
    exact hcl.out
  simp only[nm]
  refine wpK_ops rfl (fun w1 hu => ?_) ?_
  · clear hu
    go_simp
    first | done | rfl
  simp only[nm]
  refine wpK_nil ?_
  intro w16 hu hap
  simp only [List.drop_succ_cons, List.drop_zero]
  replace hu := (Up.refl _).drew.trans hu
  clear hap
  have hu17 := Aside0.mk hu
  clear hu
  refine stw [.int .i64 t12, .int .i64 t14] (hb8.up hu17.out) rfl rfl rfl rfl rfl (by kernel_rfl) rfl rfl ?_
  intro w18 hs19 hb20
  refine wln (hK11 _ _ ?_)
  refine wp_ret ?_
  refine hQf _ _ _ ?_
  have cr0 := hb20.cell (o := 0) rfl
  have cr1 := hb20.cell (o := 1) rfl
  exact bodyPost_ret (v := .agg #[.int .i64 t12, .int .i64 t14]) (by first|rfl|simp [results, Tryz.results64, go_sem, cr0, cr1]<;>rfl) rfl ⟨rfl, ((((hu4.out.trans hu7.out).trans hu10.out).trans hu17.out).sto (Nat.le_trans ((Nat.le_trans (hu4.out.size) hu7.out.size)) lbb8.out) hs19.out)⟩

set_option maxHeartbeats 40000000 in
set_option maxRecDepth 100000 in
theorem spec_l02Product.calls (K : Nat) (a0 : Int) (a1 : Int) (a2_0 : Int) (a2_1 : Int) (a3_0 : Int) (a3_1 : Int) (r0 : Int) (w : World)  (h : spec_l02Product.f K a0 a1 a2_0 a2_1 a3_0 a3_1 = some (r0)) :
    Calls Tryz.prog 102 #[.int .i64 a0, .int .i64 a1, .agg #[.int .i64 a2_0, .int .i64 a2_1], .agg #[.int .i64 a3_0, .int .i64 a3_1]] w fun e w' => e = .returned (.int .i64 r0) ∧ Up w w' := by
 have H : ((if (a1 == 0) = true then ((spec_l01Mod.f K (wrap64 ((wrap64 (a2_0 * a3_0)) + (wrap64 (a2_1 * a3_1)))) a0).bind fun t13 => some t13) else (if (a1 == 1) = true then ((spec_l01Mod.f K (wrap64 ((wrap64 (a2_0 * a3_0)) - (wrap64 (a2_1 * a3_1)))) a0).bind fun t20 => some t20) else ((spec_l01Mod.f K (wrap64 ((wrap64 (a2_0 * a3_1)) + (wrap64 (a2_1 * a3_0)))) a0).bind fun t25 => some t25))) : Option (Int)) = some (r0) := h
 clear h
 go_enter Tryz.func102, Tryz.ntmps102
 refine wp_hide (fun Qf hQf => ?_)
 refine wsr fun _ hK1=>?_
 refine stp (cs := [.int .i64 a2_0, .int .i64 a2_1]) (T := 25) ?_
 intro b2 w3 hu4 lbb2 ltb2 hb2
 simp only[nm]
 refine stp (cs := [.int .i64 a3_0, .int .i64 a3_1]) (T := 25) ?_
 intro b5 w6 hu7 lbb5 ltb5 hb5
 simp only[nm]
 refine wpp fun k h=>?_;go_simp;apply h;clear h k
 refine wln (hK1 _ _ ?_)
 refine wp_seq_k fun K8 hK8=>?_
 refine wsr fun _ hK9=>?_
 refine wpp fun k h=>?_;go_simp;apply h;clear h k
 refine wln (hK9 _ _ ?_)
 refine wp_block ?_
 refine wsr fun _ hK10=>?_
 iterate 2 (refine wpp fun k h=>?_;go_simp;apply h;clear h k)
 refine wln (hK10 _ _ ?_)
 by_cases c11 : (a1 == 0) = true
 ·
  rw [if_pos c11] at H
  have c11n : (a1 != 0) = false := by rw [bne, c11]; rfl
  obtain ⟨t13,A14,H⟩:=bnd H;try dsimp only at H
  obtain rfl := Option.some.inj H
  try simp only [c11, c11n, Bool.not_true, Bool.not_false]
  refine wp_cond_true rfl ?_
  refine wsr fun _ hK12=>?_
  refine wpp fun k h=>?_;go_simp;apply h;clear h k
  have cl0 := (hb2.up hu7.out).cell (o := 0) rfl
  refine wpp fun k h=>?_;go_simp;apply h;clear h k
  clear cl0
  refine wpp fun k h=>?_;go_simp;apply h;clear h k
  have cl0 := hb5.cell (o := 0) rfl
  refine wpp fun k h=>?_;go_simp;apply h;clear h k
  clear cl0
  iterate 2 (refine wpp fun k h=>?_;go_simp;apply h;clear h k)
  have cl0 := (hb2.up hu7.out).cell (o := 1) rfl
  refine wpp fun k h=>?_;go_simp;apply h;clear h k
  clear cl0
  refine wpp fun k h=>?_;go_simp;apply h;clear h k
  have cl0 := hb5.cell (o := 1) rfl
  refine wpp fun k h=>?_;go_simp;apply h;clear h k
  clear cl0
  iterate 3 (refine wpp fun k h=>?_;go_simp;apply h;clear h k)
  refine stc (spec_l01Mod.calls K (wrap64 ((wrap64 (a2_0 * a3_0)) + (wrap64 (a2_1 * a3_1)))) a0 t13 w6  A14.out) ?_
  intro w15 hu16
  simp only[nm]
  refine wpp fun k h=>?_;go_simp;apply h;clear h k
  refine wln (hK12 _ _ ?_)
  refine wp_ret ?_
  refine hQf _ _ _ ?_
  exact bpr (v := .int .i64 t13) ⟨rfl, ((hu4.out.trans hu7.out).trans hu16.out)⟩
 rw [if_neg c11] at H; replace c11 := Bool.eq_false_iff.mpr c11
 have c11n : (a1 != 0) = true := by rw [bne, c11]; rfl
 have c11p : ¬ a1 = 0 := fun e => by simp [e] at c11
 try simp only [c11, c11n, Bool.not_true, Bool.not_false]
 refine wp_cond_false rfl ?_
 refine wsr fun _ hK17=>?_
 iterate 2 (refine wpp fun k h=>?_;go_simp;apply h;clear h k)
 refine wln (hK17 _ _ ?_)
 by_cases c18 : (a1 == 1) = true
 ·
  rw [if_pos c18] at H
  have c18n : (a1 != 1) = false := by rw [bne, c18]; rfl
  obtain ⟨t20,A21,H⟩:=bnd H;try dsimp only at H
  obtain rfl := Option.some.inj H
  try simp only [c18, c18n, Bool.not_true, Bool.not_false]
  refine wp_cond_true rfl ?_
  refine wsr fun _ hK19=>?_
  refine wpp fun k h=>?_;go_simp;apply h;clear h k
  have cl0 := (hb2.up hu7.out).cell (o := 0) rfl
  refine wpp fun k h=>?_;go_simp;apply h;clear h k
  clear cl0
  refine wpp fun k h=>?_;go_simp;apply h;clear h k
  have cl0 := hb5.cell (o := 0) rfl
  refine wpp fun k h=>?_;go_simp;apply h;clear h k
  clear cl0
  iterate 2 (refine wpp fun k h=>?_;go_simp;apply h;clear h k)
  have cl0 := (hb2.up hu7.out).cell (o := 1) rfl
  refine wpp fun k h=>?_;go_simp;apply h;clear h k
  clear cl0
  refine wpp fun k h=>?_;go_simp;apply h;clear h k
  have cl0 := hb5.cell (o := 1) rfl
  refine wpp fun k h=>?_;go_simp;apply h;clear h k
  clear cl0
  iterate 3 (refine wpp fun k h=>?_;go_simp;apply h;clear h k)
  refine stc (spec_l01Mod.calls K (wrap64 ((wrap64 (a2_0 * a3_0)) - (wrap64 (a2_1 * a3_1)))) a0 t20 w6  A21.out) ?_
  intro w22 hu23
  simp only[nm]
  refine wpp fun k h=>?_;go_simp;apply h;clear h k
  refine wln (hK19 _ _ ?_)
  refine wp_ret ?_
  refine hQf _ _ _ ?_
  exact bpr (v := .int .i64 t20) ⟨rfl, ((hu4.out.trans hu7.out).trans hu23.out)⟩
 rw [if_neg c18] at H; replace c18 := Bool.eq_false_iff.mpr c18
 have c18n : (a1 != 1) = true := by rw [bne, c18]; rfl
 have c18p : ¬ a1 = 1 := fun e => by simp [e] at c18
 obtain ⟨t25,A26,H⟩:=bnd H;try dsimp only at H
 obtain rfl := Option.some.inj H
 try simp only [c18, c18n, Bool.not_true, Bool.not_false]
 refine wp_cond_false rfl ?_
 refine wp_skip ?_
 refine hK8 _ _ ?_
 refine wsr fun _ hK24=>?_
 refine wpp fun k h=>?_;go_simp;apply h;clear h k
 have cl0 := (hb2.up hu7.out).cell (o := 0) rfl
 refine wpp fun k h=>?_;go_simp;apply h;clear h k
 clear cl0
 refine wpp fun k h=>?_;go_simp;apply h;clear h k
 have cl0 := hb5.cell (o := 1) rfl
 refine wpp fun k h=>?_;go_simp;apply h;clear h k
 clear cl0
 iterate 2 (refine wpp fun k h=>?_;go_simp;apply h;clear h k)
 have cl0 := (hb2.up hu7.out).cell (o := 1) rfl
 refine wpp fun k h=>?_;go_simp;apply h;clear h k
 clear cl0
 refine wpp fun k h=>?_;go_simp;apply h;clear h k
 have cl0 := hb5.cell (o := 0) rfl
 refine wpp fun k h=>?_;go_simp;apply h;clear h k
 clear cl0
 iterate 3 (refine wpp fun k h=>?_;go_simp;apply h;clear h k)
 refine stc (spec_l01Mod.calls K (wrap64 ((wrap64 (a2_0 * a3_1)) + (wrap64 (a2_1 * a3_0)))) a0 t25 w6  A26.out) ?_
 intro w27 hu28
 simp only[nm]
 refine wpp fun k h=>?_;go_simp;apply h;clear h k
 refine wln (hK24 _ _ ?_)
 refine wp_ret ?_
 refine hQf _ _ _ ?_
 exact bpr (v := .int .i64 t25) ⟨rfl, ((hu4.out.trans hu7.out).trans hu28.out)⟩

set_option maxHeartbeats 40000000 in
set_option maxRecDepth 100000 in
theorem spec_l02Quadrance.calls (K : Nat) (a0 : Int) (a1 : Int) (a2_0 : Int) (a2_1 : Int) (a3_0 : Int) (a3_1 : Int) (r0 : Int) (w : World)  (h : spec_l02Quadrance.f K a0 a1 a2_0 a2_1 a3_0 a3_1 = some (r0)) :
    Calls Tryz.prog 59 #[.int .i64 a0, .int .i64 a1, .agg #[.int .i64 a2_0, .int .i64 a2_1], .agg #[.int .i64 a3_0, .int .i64 a3_1]] w fun e w' => e = .returned (.int .i64 r0) ∧ Up w w' := by
 have H : (((spec_l01Minus.f K a0 a3_0 a3_1 a2_0 a2_1).bind fun (t9, t10) => ((spec_l02Product.f K a0 a1 t9 t10 t9 t10).bind fun t21 => some t21)) : Option (Int)) = some (r0) := h
 clear h
 obtain ⟨⟨t9, t10⟩,A11,H⟩:=bnd H;try dsimp only at H
 obtain ⟨t21,A22,H⟩:=bnd H;try dsimp only at H
 obtain rfl := Option.some.inj H
 go_enter Tryz.func59, Tryz.ntmps59
 refine wp_hide (fun Qf hQf => ?_)
 refine wsr fun _ hK1=>?_
 refine stp (cs := [.int .i64 a2_0, .int .i64 a2_1]) (T := 25) ?_
 intro b2 w3 hu4 lbb2 ltb2 hb2
 simp only[nm]
 refine stp (cs := [.int .i64 a3_0, .int .i64 a3_1]) (T := 25) ?_
 intro b5 w6 hu7 lbb5 ltb5 hb5
 simp only[nm]
 refine wpp fun k h=>?_;go_simp;apply h;clear h k
 refine wln (hK1 _ _ ?_)
 refine wsr fun _ hK8=>?_
 refine wpp fun k h=>?_;go_simp;apply h;clear h k
 have cl0 := hb5.cell (o := 0) rfl
 have cl1 := hb5.cell (o := 1) rfl
 refine wpp fun k h=>?_;go_simp;apply h;clear h k
 clear cl0 cl1
 have cl0 := (hb2.up hu7.out).cell (o := 0) rfl
 have cl1 := (hb2.up hu7.out).cell (o := 1) rfl
 refine wpp fun k h=>?_;go_simp;apply h;clear h k
 clear cl0 cl1
 refine stc (spec_l01Minus.calls K a0 a3_0 a3_1 a2_0 a2_1 t9 t10 w6  A11.out) ?_
 intro w12 hu13
 simp only[nm]
 refine stp (cs := [.int .i64 0, .int .i64 0]) (T := 25) ?_
 intro b14 w15 hu16 lbb14 ltb14 hb14
 simp only[nm]
 refine stw [.int .i64 t9, .int .i64 t10] hb14 rfl rfl rfl rfl rfl (by kernel_rfl) rfl rfl ?_
 intro w17 hs18 hb19
 refine wln (hK8 _ _ ?_)
 refine wsr fun _ hK20=>?_
 iterate 2 (refine wpp fun k h=>?_;go_simp;apply h;clear h k)
 have cl0 := hb19.cell (o := 0) rfl
 have cl1 := hb19.cell (o := 1) rfl
 refine wpp fun k h=>?_;go_simp;apply h;clear h k
 clear cl0 cl1
 have cl0 := hb19.cell (o := 0) rfl
 have cl1 := hb19.cell (o := 1) rfl
 refine wpp fun k h=>?_;go_simp;apply h;clear h k
 clear cl0 cl1
 refine stc (spec_l02Product.calls K a0 a1 t9 t10 t9 t10 t21 w17  A22.out) ?_
 intro w23 hu24
 simp only[nm]
 refine wpp fun k h=>?_;go_simp;apply h;clear h k
 refine wln (hK20 _ _ ?_)
 refine wp_ret ?_
 refine hQf _ _ _ ?_
 exact bpr (v := .int .i64 t21) ⟨rfl, (((((hu4.out.trans hu7.out).trans hu13.out).trans hu16.out).sto (Nat.le_trans ((Nat.le_trans ((Nat.le_trans (hu4.out.size) hu7.out.size)) hu13.out.size)) lbb14.out) hs18.out).trans hu24.out)⟩

set_option maxHeartbeats 40000000 in
set_option maxRecDepth 100000 in
theorem spec_l02At.calls (K : Nat) (a0 : Int) (a1 : Int) (a2_0 : Int) (a2_1 : Int) (a3 : Int) (r0 : List (Int × Int)) (w : World)  (h : spec_l02At.f K a0 a1 a2_0 a2_1 a3 = some (r0)) :
    Calls Tryz.prog 52 #[.int .i64 a0, .int .i64 a1, .agg #[.int .i64 a2_0, .int .i64 a2_1], .int .i64 a3] w fun e w' => ∃ (Ar0 : Option Addr) (cr0 : Nat), e = .returned (.slice Ar0 r0.length cr0) ∧ Own e2 25 w' w.heap.size (.slice Ar0 r0.length cr0) r0 ∧ Up w w' := by
 have H : ((spec_l02At.l0 K a0 a1 a2_0 a2_1 a3 K 0 ([] : List (Int × Int))) : Option (List (Int × Int))) = some (r0) := h
 clear h
 go_enter Tryz.func52, Tryz.ntmps52
 refine wp_hide (fun Qf hQf => ?_)
 refine wsr fun _ hK1=>?_
 refine stp (cs := [.int .i64 a2_0, .int .i64 a2_1]) (T := 25) ?_
 intro b2 w3 hu4 lbb2 ltb2 hb2
 simp only[nm]
 refine wpp fun k h=>?_;go_simp;apply h;clear h k
 refine wln (hK1 _ _ ?_)
 refine wsr fun _ hK5=>?_
 refine step_new (cs := []) (T := 25) (f := fun b => .slice (some ⟨b, 0, none⟩) 0 0) rfl (by go_simp <;> rfl) ?_
 intro b6 w7 hu lb hb6
 simp only[nm]
 have lbb6 := Aside0.mk lb
 clear lb
 have hu8 := Aside0.mk hu
 clear hu
 refine wpp fun k h=>?_;go_simp;apply h;clear h k
 refine wln (hK5 _ _ ?_)
 refine wp_seq_k fun K9 hK9=>?_
 refine wsr fun _ hK10=>?_
 refine wpp fun k h=>?_;go_simp;apply h;clear h k
 refine wln (hK10 _ _ ?_)
 refine wp_block ?_
 have h12 : Own e2 25 w7 w3.heap.size (.slice (some ⟨b6, 0, none⟩) ([].length) 0) [] := Own.of_blk hb6 lbb6.out rfl (by simp) (by simp [Enc.flat, e2])
 have HL20 := Aside0.mk H
 clear H
 go_loopg [10, 9] K (fun kq v10 v9 w' => ∃ (x13 : Int) (x14 : List (Int × Int)) (P15 : Option Addr) (q16 : Nat), v10 = .int .i64 x13 ∧ v9 = .slice P15 x14.length q16 ∧ Aside0 (spec_l02At.l0 K a0 a1 a2_0 a2_1 a3 kq x13 x14 = some (r0)) ∧ Aside0 (kq ≤ K) ∧ Aside0 (Up w3 w') ∧ Aside0 (w7.heap.size ≤ w'.heap.size) ∧ Own e2 25 w' w3.heap.size (.slice P15 x14.length q16) x14 ∧ Aside0 (∀ k, blk (.slice P15 x14.length q16) = some k → k ≠ b2))
 case atStart => exact ⟨0, ([] : List (Int × Int)), some ⟨b6, 0, none⟩, 0, (by first | rfl | simp), (by first | rfl | simp), HL20, ⟨Nat.le_refl _⟩, ⟨hu8.out⟩, ⟨Nat.le_refl _⟩, h12, ⟨(fun k hk => Ne.symm ((fun k hk => Nat.ne_of_lt (Nat.lt_of_lt_of_le ltb2.out ((fun k hk => Nat.le_trans (Nat.le_refl _) (h12.lt k hk).1) k hk))) k hk))⟩⟩
 case round =>
  rename_i J25 K26 hJ25 hK26
  obtain ⟨x13, x14, P15, q16, rfl, rfl, HL27, hk24, hu18, hz19, h21, hn22⟩ := hrel
  obtain ⟨w17, rfl⟩ : ∃ wo : World, wo = wr := ⟨_, rfl⟩
  obtain ⟨k23, rfl⟩ | rfl : (∃ k, gk = k + 1) ∨ gk = 0 := by rcases gk with _ | k; exact .inr rfl; exact .inl ⟨k, rfl⟩
  case inr => exact absurd HL27.out (by simp [spec_l02At.l0])
  have H := HL27.out
  clear HL27
  rw [spec_l02At.l0] at H
  refine wp_seq_k fun K28 hK28=>?_
  refine wsr fun _ hK29=>?_
  iterate 3 (refine wpp fun k h=>?_;go_simp;apply h;clear h k)
  refine wln (hK29 _ _ ?_)
  have hm31 := Aside0.mk (hu4.out.trans hu18.out)
  by_cases c30 : (decide (x13 < a0)) = true
  rotate_left
  ·
   rw [if_neg c30] at H; replace c30 := Bool.eq_false_iff.mpr c30
   obtain rfl := Option.some.inj H
   try simp only [c30, Bool.not_true, Bool.not_false]
   refine wp_cond_false rfl ?_
   refine wp_exit ?_
   refine hK9 _ _ ?_
   refine wsr fun _ hK87=>?_
   iterate 2 (refine wpp fun k h=>?_;go_simp;apply h;clear h k)
   refine wln (hK87 _ _ ?_)
   refine wp_ret ?_
   refine hQf _ _ _ ?_
   exact bpr (v := .slice P15 x14.length q16) ⟨P15, q16, rfl, (h21.lower (hu4.out.size)), hm31.out⟩
  rw [if_pos c30] at H
  try simp only [c30, Bool.not_true, Bool.not_false]
  refine wp_cond_true rfl ?_
  refine wp_skip ?_
  refine hK28 _ _ ?_
  refine wp_seq_k fun K32 hK32=>?_
  refine wp_block ?_
  refine wsr fun _ hK33=>?_
  refine wpp fun k h=>?_;go_simp;apply h;clear h k
  refine wln (hK33 _ _ ?_)
  refine wp_block ?_
  have HL41 := Aside0.mk H
  clear H
  go_loopg [11, 9] k23 (fun kq v11 v9 w' => ∃ (x34 : Int) (x35 : List (Int × Int)) (P36 : Option Addr) (q37 : Nat), v11 = .int .i64 x34 ∧ v9 = .slice P36 x35.length q37 ∧ Aside0 (spec_l02At.l1 K a0 a1 a2_0 a2_1 a3 x13 kq x34 x35 = some (r0)) ∧ Aside0 (kq ≤ k23) ∧ Aside0 (Up w3 w') ∧ Aside0 (w17.heap.size ≤ w'.heap.size) ∧ Own e2 25 w' w3.heap.size (.slice P36 x35.length q37) x35 ∧ Aside0 (∀ k, blk (.slice P36 x35.length q37) = some k → k ≠ b2))
  case atStart => exact ⟨0, x14, P15, q16, (by first | rfl | simp), (by first | rfl | simp), HL41, ⟨Nat.le_refl _⟩, ⟨hu18.out⟩, ⟨Nat.le_refl _⟩, h21, ⟨hn22.out⟩⟩
  case round =>
   rename_i J46 K47 hJ46 hK47
   obtain ⟨x34, x35, P36, q37, rfl, rfl, HL48, hk45, hu39, hz40, h42, hn43⟩ := hrel
   obtain ⟨w38, rfl⟩ : ∃ wo : World, wo = wr := ⟨_, rfl⟩
   obtain ⟨k44, rfl⟩ | rfl : (∃ k, gk = k + 1) ∨ gk = 0 := by rcases gk with _ | k; exact .inr rfl; exact .inl ⟨k, rfl⟩
   case inr => exact absurd HL48.out (by simp [spec_l02At.l1])
   have H := HL48.out
   clear HL48
   rw [spec_l02At.l1] at H
   refine wp_seq_k fun K49 hK49=>?_
   refine wsr fun _ hK50=>?_
   iterate 3 (refine wpp fun k h=>?_;go_simp;apply h;clear h k)
   refine wln (hK50 _ _ ?_)
   by_cases c51 : (decide (x34 < a0)) = true
   rotate_left
   ·
    rw [if_neg c51] at H; replace c51 := Bool.eq_false_iff.mpr c51
    have HL86 := Aside0.mk H
    clear H
    try simp only [c51, Bool.not_true, Bool.not_false]
    refine wp_cond_false rfl ?_
    refine wp_exit ?_
    refine hK32 _ _ ?_
    refine wp_region_lit ?_
    iterate 3 (refine wpp fun k h=>?_;go_simp;apply h;clear h k)
    refine wln (hK26 _ _ ?_)
    go_roundg k44
    case measure => have := hk24.out; have := hk45.out; omega
    case rel => exact ⟨wrap64 (x13 + 1), x35, P36, q37, (by first | rfl | simp), (by first | rfl | simp), HL86, ⟨by have := hk24.out; have := hk45.out; omega⟩, ⟨hu39.out⟩, ⟨(Nat.le_trans ((Nat.le_trans (Nat.le_refl _) hz19.out)) hz40.out)⟩, h42, ⟨hn43.out⟩⟩
   rw [if_pos c51] at H
   obtain ⟨t61,A62,H⟩:=bnd H;try dsimp only at H
   try simp only [c51, Bool.not_true, Bool.not_false]
   refine wp_cond_true rfl ?_
   refine wp_skip ?_
   refine hK49 _ _ ?_
   refine wp_seq_k fun K52 hK52=>?_
   refine wp_block ?_
   refine wsr fun _ hK53=>?_
   iterate 3 (refine wpp fun k h=>?_;go_simp;apply h;clear h k)
   refine stp (cs := [.int .i64 0, .int .i64 0]) (T := 25) ?_
   intro b54 w55 hu56 lbb54 ltb54 hb54
   simp only[nm]
   refine stw [.int .i64 x13, .int .i64 x34] hb54 rfl rfl rfl rfl rfl (by kernel_rfl) rfl rfl ?_
   intro w57 hs58 hb59
   refine wln (hK53 _ _ ?_)
   refine wsr fun _ hK60=>?_
   iterate 2 (refine wpp fun k h=>?_;go_simp;apply h;clear h k)
   have cl0 := (hb2.up ((hu39.out.trans hu56.out).sto (Nat.le_trans ((Nat.le_trans ((Nat.le_trans (hu8.out.size) hz19.out)) hz40.out)) lbb54.out) hs58.out)).cell (o := 0) rfl
   have cl1 := (hb2.up ((hu39.out.trans hu56.out).sto (Nat.le_trans ((Nat.le_trans ((Nat.le_trans (hu8.out.size) hz19.out)) hz40.out)) lbb54.out) hs58.out)).cell (o := 1) rfl
   refine wpp fun k h=>?_;go_simp;apply h;clear h k
   clear cl0 cl1
   have cl0 := hb59.cell (o := 0) rfl
   have cl1 := hb59.cell (o := 1) rfl
   refine wpp fun k h=>?_;go_simp;apply h;clear h k
   clear cl0 cl1
   refine stc (spec_l02Quadrance.calls K a0 a1 a2_0 a2_1 x13 x34 t61 w57  A62.out) ?_
   intro w63 hu64
   simp only[nm]
   iterate 2 (refine wpp fun k h=>?_;go_simp;apply h;clear h k)
   refine wln (hK60 _ _ ?_)
   have hm66 := Aside0.mk ((hu56.out.sto (Nat.le_trans (Nat.le_refl _) lbb54.out) hs58.out).trans hu64.out)
   have hm67 := Aside0.mk (Nat.le_trans ((Nat.le_trans ((Nat.le_trans (hu8.out.size) hz19.out)) hz40.out)) hm66.out.size)
   by_cases c65 : (t61 == a3) = true
   rotate_left
   ·
    rw [if_neg c65] at H; replace c65 := Bool.eq_false_iff.mpr c65
    have c65n : (t61 != a3) = true := by rw [bne, c65]; rfl
    have c65p : ¬ t61 = a3 := fun e => by simp [e] at c65
    have HL85 := Aside0.mk H
    clear H
    try simp only [c65, c65n, Bool.not_true, Bool.not_false]
    refine wp_cond_false rfl ?_
    refine wp_skip ?_
    refine hK52 _ _ ?_
    refine wp_region_lit ?_
    iterate 3 (refine wpp fun k h=>?_;go_simp;apply h;clear h k)
    refine wln (hK47 _ _ ?_)
    go_roundg k44
    case measure => exact Nat.lt_succ_self _
    case rel => exact ⟨wrap64 (x34 + 1), x35, P36, q37, (by first | rfl | simp), (by first | rfl | simp), HL85, ⟨by have := hk24.out; have := hk45.out; omega⟩, ⟨(hu39.out.trans hm66.out)⟩, ⟨(Nat.le_trans ((Nat.le_trans (Nat.le_refl _) hz40.out)) hm66.out.size)⟩, (h42.up hm66.out), ⟨hn43.out⟩⟩
   rw [if_pos c65] at H
   have c65n : (t61 != a3) = false := by rw [bne, c65]; rfl
   try simp only [c65, c65n, Bool.not_true, Bool.not_false]
   refine wp_cond_true rfl ?_
   refine wp_region_lit ?_
   refine wpp fun k h=>?_;go_simp;apply h;clear h k
   have cl0 := (hb59.up hu64.out).cell (o := 0) rfl
   have cl1 := (hb59.up hu64.out).cell (o := 1) rfl
   refine wpp fun k h=>?_;go_simp;apply h;clear h k
   clear cl0 cl1
   refine step_new (cs := [.int .i64 x13, .int .i64 x34]) (T := 25) (f := fun b => .slice (some ⟨b, 0, none⟩) 1 1) rfl (by go_simp <;> rfl) ?_
   intro b68 w69 hu lb hb68
   simp only[nm]
   clear lb
   have hu70 := Aside0.mk hu
   clear hu
   have hm73 := Aside0.mk (Nat.le_trans ((Nat.le_trans ((Nat.le_trans (Nat.le_refl _) hz40.out)) hm66.out.size)) hu70.out.size)
   by_cases c71 : (decide (x35.length ≤ 1000000)) = true
   rotate_left
   ·
    rw [if_neg c71] at H; replace c71 := Bool.eq_false_iff.mpr c71
    exact absurd H (by simp)
   rw [if_pos c71] at H
   have HL84 := Aside0.mk H
   clear H
   try simp only [c71, Bool.not_true, Bool.not_false]
   have hO0 := Aside0.mk (h42.up (hm66.out.trans hu70.out))
   refine step_append e2 (z := .agg #[.int .i64 0, .int .i64 0]) (bytes := 16) (base := w3.heap.size) (xs := x35) (ys := [(x13, x34)]) wn _ _ rfl rfl (by kernel_rfl) rfl (by decide) rfl rfl rfl hO0.out (Rd.of_blk (E := e2) (xs := [(x13, x34)]) (o := 0) hb68 (by simp) (fun j u hu => by rcases j with _ | _ | j <;> simp_all [Enc.flat, e2])) ((Nat.le_trans (hm67.out) hu70.out.size)) (by have h0_ := (of_decide_eq_true (by assumption) : x35.length ≤ 1000000); (try simp only [List.length_cons, List.length_nil]); omega) ?_
   intro P74 q75 w76 h78 hg hat
   have hg79 := Aside0.mk hg
   have hat80 := Aside0.mk hat
   simp only[nm]
   have lb81 := Aside0.mk hO0.out.lt
   clear hO0 hg hat
   refine wpp fun k h=>?_;go_simp;apply h;clear h k
   refine wln (hK52 _ _ ?_)
   refine wp_region_lit ?_
   iterate 3 (refine wpp fun k h=>?_;go_simp;apply h;clear h k)
   refine wln (hK47 _ _ ?_)
   go_roundg k44
   case measure => exact Nat.lt_succ_self _
   case rel => exact ⟨wrap64 (x34 + 1), (x35 ++ [(x13, x34)]), P74, q75, (by first | rfl | simp), (by first | rfl | simp), HL84, ⟨by have := hk24.out; have := hk45.out; omega⟩, ⟨(((hu39.out.trans hm66.out).trans hu70.out).grow hg79.out (fun k hk => Nat.le_trans (Nat.le_refl _) ((fun k hk => (lb81.out k hk).1) k hk)))⟩, ⟨(Nat.le_trans (hm73.out) hg79.out.size)⟩, h78, ⟨(fun k hk => hat80.out.elim (fun e => hn43.out k (e.symm.trans hk)) (fun g => Nat.ne_of_gt (Nat.lt_of_lt_of_le (Nat.lt_of_lt_of_le ltb2.out ((Nat.le_trans (hm67.out) hu70.out.size))) (g k hk))))⟩⟩

set_option maxHeartbeats 40000000 in
set_option maxRecDepth 100000 in
theorem spec_l01BadField.calls (K : Nat) (ba0 : Nat) (a0_0_A : Option Addr) (a0_0_c : Nat) (a0_0 : List (Int)) (a0_1 : Int) (a0_2 : Int) (a1 : Int) (r0 : Int) (r1 : Int) (r2 : Int) (w : World) (ha0 : Blk w ba0 [.slice a0_0_A a0_0.length a0_0_c, .int .i64 a0_1, .int .u64 a0_2] 105) (ha0_0 : Rd eU8 w a0_0_A a0_0) (haa0_0 : ∀ k, blk (.slice a0_0_A a0_0.length a0_0_c) = some k → 0 < a0_0.length → k ≠ ba0) (h : spec_l01BadField.f K a0_0 a0_1 a0_2 a1 = some (r0, r1, r2)) :
    Calls Tryz.prog 79 #[.pointer (some ⟨ba0, 0, none⟩), .int .i64 a1] w fun e w' => e = .returned (.int .i64 r0) ∧ Blk w' ba0 [.slice a0_0_A a0_0.length a0_0_c, .int .i64 r1, .int .u64 r2] 105 ∧ Grow (.pointer (some ⟨ba0, 0, none⟩)) w w' := by
 have H : (((spec_l01Next.f K a0_0 a0_1 a0_2 40).bind fun (t4, t5, t6) => (if (t4 == 0) = true then ((spec_l01Pick.f K a0_0 t5 t6 ([2, 1, 0, (-3), 9, 15, 37, 1099511627776])).bind fun (t17, t18, t19) => some (t17, t18, t19)) else some (a1, t5, t6))) : Option (Int × Int × Int)) = some (r0, r1, r2) := h
 clear h
 obtain ⟨⟨t4, t5, t6⟩,A7,H⟩:=bnd H;try dsimp only at H
 have ltba0 := Aside0.mk ha0.lt
 go_enter Tryz.func79, Tryz.ntmps79
 refine wp_hide (fun Qf hQf => ?_)
 refine wsr fun _ hK1=>?_
 refine wpp fun k h=>?_;go_simp;apply h;clear h k
 refine wln (hK1 _ _ ?_)
 refine wp_seq_k fun K2 hK2=>?_
 refine wsr fun _ hK3=>?_
 refine wpp fun k h=>?_;go_simp;apply h;clear h k
 refine step_call wn (by go_simp <;> rfl) (spec_l01Next.calls K ba0 a0_0_A a0_0_c a0_0 a0_1 a0_2 40 t4 t5 t6 w ha0 ha0_0 haa0_0 A7.out) ?_
 rintro e w8 ⟨rfl, h9, hs⟩
 have hs10 := Aside0.mk hs
 clear hs
 have h11 := ha0_0.growp hs10.out haa0_0
 refine ⟨_, rfl, ?_⟩
 simp only[nm]
 refine wpp fun k h=>?_;go_simp;apply h;clear h k
 refine wln (hK3 _ _ ?_)
 by_cases c12 : (t4 == 0) = true
 rotate_left
 ·
  rw [if_neg c12] at H; replace c12 := Bool.eq_false_iff.mpr c12
  have c12n : (t4 != 0) = true := by rw [bne, c12]; rfl
  have c12p : ¬ t4 = 0 := fun e => by simp [e] at c12
  simp only [Option.some.injEq, Prod.mk.injEq] at H
  obtain ⟨rfl, rfl, rfl⟩ := H
  try simp only [c12, c12n, Bool.not_true, Bool.not_false]
  refine wp_cond_false rfl ?_
  refine wp_skip ?_
  refine hK2 _ _ ?_
  refine wsr fun _ hK26=>?_
  iterate 2 (refine wpp fun k h=>?_;go_simp;apply h;clear h k)
  refine wln (hK26 _ _ ?_)
  refine wp_ret ?_
  refine hQf _ _ _ ?_
  exact bpr (v := .int .i64 a1) ⟨rfl, h9, ((Grow.refl (.pointer (some ⟨ba0, 0, none⟩)) _).trans hs10.out)⟩
 rw [if_pos c12] at H
 have c12n : (t4 != 0) = false := by rw [bne, c12]; rfl
 obtain ⟨⟨t17, t18, t19⟩,A20,H⟩:=bnd H;try dsimp only at H
 simp only [Option.some.injEq, Prod.mk.injEq] at H
 obtain ⟨rfl, rfl, rfl⟩ := H
 try simp only [c12, c12n, Bool.not_true, Bool.not_false]
 refine wp_cond_true rfl ?_
 refine wsr fun _ hK13=>?_
 refine wpp fun k h=>?_;go_simp;apply h;clear h k
 refine step_new (cs := [.int .i64 2, .int .i64 1, .int .i64 0, .int .i64 (-3), .int .i64 9, .int .i64 15, .int .i64 37, .int .i64 1099511627776]) (T := 2) (f := fun b => .slice (some ⟨b, 0, none⟩) 8 8) rfl (by go_simp <;> rfl) ?_
 intro b14 w15 hu lb hb14
 simp only[nm]
 have lbb14 := Aside0.mk lb
 clear lb
 have hu16 := Aside0.mk hu
 clear hu
 refine step_call wn (by go_simp <;> rfl) (spec_l01Pick.calls K ba0 a0_0_A a0_0_c a0_0 t5 t6 (some ⟨b14, 0, none⟩) 8 ([2, 1, 0, (-3), 9, 15, 37, 1099511627776]) t17 t18 t19 w15 (h9.up hu16.out) (h11.up hu16.out) haa0_0 (Rd.of_blk (E := eI) (xs := [2, 1, 0, (-3), 9, 15, 37, 1099511627776]) (o := 0) hb14 (by simp) (fun j u hu => by rcases j with _ | _ | _ | _ | _ | _ | _ | _ | j <;> simp_all [Enc.flat, eI])) (fun k hk hp e => (Ne.symm (Nat.ne_of_lt (Nat.lt_of_lt_of_le (Nat.lt_of_lt_of_le ltba0.out (hs10.out.size)) lbb14.out))) ((Option.some.inj hk).trans e)) A20.out) ?_
 rintro e w21 ⟨rfl, h22, hs⟩
 have hs23 := Aside0.mk hs
 clear hs
 refine ⟨_, rfl, ?_⟩
 simp only[nm]
 refine wpp fun k h=>?_;go_simp;apply h;clear h k
 refine wln (hK13 _ _ ?_)
 refine wp_ret ?_
 refine hQf _ _ _ ?_
 exact bpr (v := .int .i64 t17) ⟨rfl, h22, ((((Grow.refl (.pointer (some ⟨ba0, 0, none⟩)) _).trans hs10.out).trans (Grow.up hu16.out)).trans hs23.out)⟩

set_option maxHeartbeats 40000000 in
set_option maxRecDepth 100000 in
theorem spec_l01BadPoint.calls (K : Nat) (ba0 : Nat) (a0_0_A : Option Addr) (a0_0_c : Nat) (a0_0 : List (Int)) (a0_1 : Int) (a0_2 : Int) (a1 : Int) (a2_0 : Int) (a2_1 : Int) (r0 : Int) (r1 : Int) (r2 : Int) (r3 : Int) (w : World) (ha0 : Blk w ba0 [.slice a0_0_A a0_0.length a0_0_c, .int .i64 a0_1, .int .u64 a0_2] 105) (ha0_0 : Rd eU8 w a0_0_A a0_0) (haa0_0 : ∀ k, blk (.slice a0_0_A a0_0.length a0_0_c) = some k → 0 < a0_0.length → k ≠ ba0) (h : spec_l01BadPoint.f K a0_0 a0_1 a0_2 a1 a2_0 a2_1 = some (r0, r1, r2, r3)) :
    Calls Tryz.prog 81 #[.pointer (some ⟨ba0, 0, none⟩), .int .i64 a1, .agg #[.int .i64 a2_0, .int .i64 a2_1]] w fun e w' => e = .returned (.agg #[.int .i64 r0, .int .i64 r1]) ∧ Blk w' ba0 [.slice a0_0_A a0_0.length a0_0_c, .int .i64 r2, .int .u64 r3] 105 ∧ Grow (.pointer (some ⟨ba0, 0, none⟩)) w w' := by
 have H : (((spec_l01Next.f K a0_0 a0_1 a0_2 40).bind fun (t10, t11, t12) => (if (t10 == 0) = true then ((spec_l01Next.f K a0_0 t11 t12 2).bind fun (t21, t22, t23) => ((spec_l01Pick.f K a0_0 t22 t23 ([(-1), a1, 1099511627776])).bind fun (t34, t35, t36) => (if (t21 == 0) = true then some (t34, a2_1, t35, t36) else (if (t21 == 1) = true then some (a2_0, t34, t35, t36) else none)))) else some (a2_0, a2_1, t11, t12))) : Option (Int × Int × Int × Int)) = some (r0, r1, r2, r3) := h
 clear h
 obtain ⟨⟨t10, t11, t12⟩,A13,H⟩:=bnd H;try dsimp only at H
 have ltba0 := Aside0.mk ha0.lt
 go_enter Tryz.func81, Tryz.ntmps81
 refine wp_hide (fun Qf hQf => ?_)
 refine wsr fun _ hK1=>?_
 refine stp (cs := [.int .i64 a2_0, .int .i64 a2_1]) (T := 25) ?_
 intro b2 w3 hu4 lbb2 ltb2 hb2
 simp only[nm]
 refine stp (cs := [.int .i64 0, .int .i64 0]) (T := 25) ?_
 intro b5 w6 hu7 lbb5 ltb5 hb5
 simp only[nm]
 refine wln (hK1 _ _ ?_)
 refine wp_seq_k fun K8 hK8=>?_
 refine wsr fun _ hK9=>?_
 refine wpp fun k h=>?_;go_simp;apply h;clear h k
 refine step_call wn (by go_simp <;> rfl) (spec_l01Next.calls K ba0 a0_0_A a0_0_c a0_0 a0_1 a0_2 40 t10 t11 t12 w6 (ha0.up (hu4.out.trans hu7.out)) (ha0_0.up (hu4.out.trans hu7.out)) haa0_0 A13.out) ?_
 rintro e w14 ⟨rfl, h15, hs⟩
 have hs16 := Aside0.mk hs
 clear hs
 have h17 := (ha0_0.up (hu4.out.trans hu7.out)).growp hs16.out haa0_0
 have h18 := (hb2.up hu7.out).grow hs16.out (fun k hk e => (Nat.ne_of_lt (Nat.lt_of_lt_of_le ltba0.out lbb2.out)) ((Option.some.inj hk).trans e))
 have h19 := hb5.grow hs16.out (fun k hk e => (Nat.ne_of_lt (Nat.lt_of_lt_of_le (Nat.lt_of_lt_of_le ltba0.out (hu4.out.size)) lbb5.out)) ((Option.some.inj hk).trans e))
 refine ⟨_, rfl, ?_⟩
 simp only[nm]
 refine wpp fun k h=>?_;go_simp;apply h;clear h k
 refine wln (hK9 _ _ ?_)
 by_cases c20 : (t10 == 0) = true
 rotate_left
 ·
  rw [if_neg c20] at H; replace c20 := Bool.eq_false_iff.mpr c20
  have c20n : (t10 != 0) = true := by rw [bne, c20]; rfl
  have c20p : ¬ t10 = 0 := fun e => by simp [e] at c20
  simp only [Option.some.injEq, Prod.mk.injEq] at H
  obtain ⟨rfl, rfl, rfl, rfl⟩ := H
  try simp only [c20, c20n, Bool.not_true, Bool.not_false]
  refine wp_cond_false rfl ?_
  refine wp_skip ?_
  refine hK8 _ _ ?_
  refine wsr fun _ hK76=>?_
  have cl0 := h18.cell (o := 0) rfl
  have cl1 := h18.cell (o := 1) rfl
  refine wpp fun k h=>?_;go_simp;apply h;clear h k
  clear cl0 cl1
  refine stw [.int .i64 a2_0, .int .i64 a2_1] h19 rfl rfl rfl rfl rfl (by kernel_rfl) rfl rfl ?_
  intro w77 hs78 hb79
  have h80 := h15.sto hs78.out (Nat.ne_of_lt (Nat.lt_of_lt_of_le (Nat.lt_of_lt_of_le ltba0.out (hu4.out.size)) lbb5.out))
  refine wln (hK76 _ _ ?_)
  refine wp_ret ?_
  refine hQf _ _ _ ?_
  have cr0 := hb79.cell (o := 0) rfl
  have cr1 := hb79.cell (o := 1) rfl
  exact bodyPost_ret (v := .agg #[.int .i64 a2_0, .int .i64 a2_1]) (by first|rfl|simp [results, Tryz.results81, go_sem, cr0, cr1]<;>rfl) rfl ⟨rfl, h80, (Grow.sto_young ((((Grow.refl (.pointer (some ⟨ba0, 0, none⟩)) _).trans (Grow.up hu4.out)).trans (Grow.up hu7.out)).trans hs16.out) hs78.out (Nat.le_trans (hu4.out.size) lbb5.out))⟩
 rw [if_pos c20] at H
 have c20n : (t10 != 0) = false := by rw [bne, c20]; rfl
 obtain ⟨⟨t21, t22, t23⟩,A24,H⟩:=bnd H;try dsimp only at H
 obtain ⟨⟨t34, t35, t36⟩,A37,H⟩:=bnd H;try dsimp only at H
 try simp only [c20, c20n, Bool.not_true, Bool.not_false]
 refine wp_cond_true rfl ?_
 refine wp_region_lit ?_
 refine wpp fun k h=>?_;go_simp;apply h;clear h k
 refine step_call wn (by go_simp <;> rfl) (spec_l01Next.calls K ba0 a0_0_A a0_0_c a0_0 t11 t12 2 t21 t22 t23 w14 h15 h17 haa0_0 A24.out) ?_
 rintro e w25 ⟨rfl, h26, hs⟩
 have hs27 := Aside0.mk hs
 clear hs
 have h28 := h17.growp hs27.out haa0_0
 have h29 := h18.grow hs27.out (fun k hk e => (Nat.ne_of_lt (Nat.lt_of_lt_of_le ltba0.out lbb2.out)) ((Option.some.inj hk).trans e))
 have h30 := h19.grow hs27.out (fun k hk e => (Nat.ne_of_lt (Nat.lt_of_lt_of_le (Nat.lt_of_lt_of_le ltba0.out (hu4.out.size)) lbb5.out)) ((Option.some.inj hk).trans e))
 refine ⟨_, rfl, ?_⟩
 simp only[nm]
 iterate 2 (refine wpp fun k h=>?_;go_simp;apply h;clear h k)
 refine step_new (cs := [.int .i64 (-1), .int .i64 a1, .int .i64 1099511627776]) (T := 2) (f := fun b => .slice (some ⟨b, 0, none⟩) 3 3) rfl (by go_simp <;> rfl) ?_
 intro b31 w32 hu lb hb31
 simp only[nm]
 have lbb31 := Aside0.mk lb
 clear lb
 have hu33 := Aside0.mk hu
 clear hu
 refine step_call wn (by go_simp <;> rfl) (spec_l01Pick.calls K ba0 a0_0_A a0_0_c a0_0 t22 t23 (some ⟨b31, 0, none⟩) 3 ([(-1), a1, 1099511627776]) t34 t35 t36 w32 (h26.up hu33.out) (h28.up hu33.out) haa0_0 (Rd.of_blk (E := eI) (xs := [(-1), a1, 1099511627776]) (o := 0) hb31 (by simp) (fun j u hu => by rcases j with _ | _ | _ | j <;> simp_all [Enc.flat, eI])) (fun k hk hp e => (Ne.symm (Nat.ne_of_lt (Nat.lt_of_lt_of_le (Nat.lt_of_lt_of_le ltba0.out ((Nat.le_trans ((Nat.le_trans ((Nat.le_trans (hu4.out.size) hu7.out.size)) hs16.out.size)) hs27.out.size))) lbb31.out))) ((Option.some.inj hk).trans e)) A37.out) ?_
 rintro e w38 ⟨rfl, h39, hs⟩
 have hs40 := Aside0.mk hs
 clear hs
 have h42 := (h29.up hu33.out).grow hs40.out (fun k hk e => (Nat.ne_of_lt (Nat.lt_of_lt_of_le ltba0.out lbb2.out)) ((Option.some.inj hk).trans e))
 have h43 := (h30.up hu33.out).grow hs40.out (fun k hk e => (Nat.ne_of_lt (Nat.lt_of_lt_of_le (Nat.lt_of_lt_of_le ltba0.out (hu4.out.size)) lbb5.out)) ((Option.some.inj hk).trans e))
 refine ⟨_, rfl, ?_⟩
 simp only[nm]
 by_cases c45 : (t21 == 0) = true
 ·
  rw [if_pos c45] at H
  have c45n : (t21 != 0) = false := by rw [bne, c45]; rfl
  have HX := H;clear H
  obtain rfl : t21 = 0 := by simpa using c45
  have H := HX;clear HX
  simp only [Option.some.injEq, Prod.mk.injEq] at H
  obtain ⟨rfl, rfl, rfl, rfl⟩ := H
  try simp only [c45, c45n, Bool.not_true, Bool.not_false]
  refine wpp fun k h=>?_;go_simp;apply h;clear h k
  have hB0 := h42
  have cl0 := hB0.cell (o := 0) rfl
  have fr0 := hB0.free 0
  refine step_store (b := b2) (cs' := [.int .i64 t34, .int .i64 a2_1]) (T := 25) (W' := (w38.setCell ⟨b2, 0, none⟩ (.int .i64 t34))) rfl rfl (by go_simp <;> rfl) ((Sto.refl _ _).setCell 0 _) ((hB0).setCell 0 _) ?_
  clear hB0 cl0 fr0
  intro w47 hs hb49
  have hs48 := Aside0.mk hs
  clear hs
  have h50 := h39.sto hs48.out (Nat.ne_of_lt (Nat.lt_of_lt_of_le ltba0.out lbb2.out))
  have h52 := h43.sto hs48.out (Ne.symm (Nat.ne_of_lt (Nat.lt_of_lt_of_le ltb2.out lbb5.out)))
  refine wln (hK8 _ _ ?_)
  refine wsr fun _ hK54=>?_
  have cl0 := hb49.cell (o := 0) rfl
  have cl1 := hb49.cell (o := 1) rfl
  refine wpp fun k h=>?_;go_simp;apply h;clear h k
  clear cl0 cl1
  refine stw [.int .i64 t34, .int .i64 a2_1] h52 rfl rfl rfl rfl rfl (by kernel_rfl) rfl rfl ?_
  intro w55 hs56 hb57
  have h58 := h50.sto hs56.out (Nat.ne_of_lt (Nat.lt_of_lt_of_le (Nat.lt_of_lt_of_le ltba0.out (hu4.out.size)) lbb5.out))
  refine wln (hK54 _ _ ?_)
  refine wp_ret ?_
  refine hQf _ _ _ ?_
  have cr0 := hb57.cell (o := 0) rfl
  have cr1 := hb57.cell (o := 1) rfl
  exact bodyPost_ret (v := .agg #[.int .i64 t34, .int .i64 a2_1]) (by first|rfl|simp [results, Tryz.results81, go_sem, cr0, cr1]<;>rfl) rfl ⟨rfl, h58, (Grow.sto_young (Grow.sto_young (((((((Grow.refl (.pointer (some ⟨ba0, 0, none⟩)) _).trans (Grow.up hu4.out)).trans (Grow.up hu7.out)).trans hs16.out).trans hs27.out).trans (Grow.up hu33.out)).trans hs40.out) hs48.out (Nat.le_trans (Nat.le_refl _) lbb2.out)) hs56.out (Nat.le_trans (hu4.out.size) lbb5.out))⟩
 rw [if_neg c45] at H; replace c45 := Bool.eq_false_iff.mpr c45
 have c45n : (t21 != 0) = true := by rw [bne, c45]; rfl
 have c45p : ¬ t21 = 0 := fun e => by simp [e] at c45
 try simp only [c45, c45n, Bool.not_true, Bool.not_false]
 by_cases c61 : (t21 == 1) = true
 rotate_left
 ·
  rw [if_neg c61] at H; replace c61 := Bool.eq_false_iff.mpr c61
  have c61n : (t21 != 1) = true := by rw [bne, c61]; rfl
  have c61p : ¬ t21 = 1 := fun e => by simp [e] at c61
  exact absurd H (by simp)
 rw [if_pos c61] at H
 have c61n : (t21 != 1) = false := by rw [bne, c61]; rfl
 have HX := H;clear H
 obtain rfl : t21 = 1 := by simpa using c61
 have H := HX;clear HX
 simp only [Option.some.injEq, Prod.mk.injEq] at H
 obtain ⟨rfl, rfl, rfl, rfl⟩ := H
 try simp only [c61, c61n, Bool.not_true, Bool.not_false]
 refine wpp fun k h=>?_;go_simp;apply h;clear h k
 have hB0 := h42
 have cl0 := hB0.cell (o := 1) rfl
 have fr0 := hB0.free 1
 refine step_store (b := b2) (cs' := [.int .i64 a2_0, .int .i64 t34]) (T := 25) (W' := (w38.setCell ⟨b2, 1, none⟩ (.int .i64 t34))) rfl rfl (by go_simp <;> rfl) ((Sto.refl _ _).setCell 1 _) ((hB0).setCell 1 _) ?_
 clear hB0 cl0 fr0
 intro w62 hs hb64
 have hs63 := Aside0.mk hs
 clear hs
 have h65 := h39.sto hs63.out (Nat.ne_of_lt (Nat.lt_of_lt_of_le ltba0.out lbb2.out))
 have h67 := h43.sto hs63.out (Ne.symm (Nat.ne_of_lt (Nat.lt_of_lt_of_le ltb2.out lbb5.out)))
 refine wln (hK8 _ _ ?_)
 refine wsr fun _ hK69=>?_
 have cl0 := hb64.cell (o := 0) rfl
 have cl1 := hb64.cell (o := 1) rfl
 refine wpp fun k h=>?_;go_simp;apply h;clear h k
 clear cl0 cl1
 refine stw [.int .i64 a2_0, .int .i64 t34] h67 rfl rfl rfl rfl rfl (by kernel_rfl) rfl rfl ?_
 intro w70 hs71 hb72
 have h73 := h65.sto hs71.out (Nat.ne_of_lt (Nat.lt_of_lt_of_le (Nat.lt_of_lt_of_le ltba0.out (hu4.out.size)) lbb5.out))
 refine wln (hK69 _ _ ?_)
 refine wp_ret ?_
 refine hQf _ _ _ ?_
 have cr0 := hb72.cell (o := 0) rfl
 have cr1 := hb72.cell (o := 1) rfl
 exact bodyPost_ret (v := .agg #[.int .i64 a2_0, .int .i64 t34]) (by first|rfl|simp [results, Tryz.results81, go_sem, cr0, cr1]<;>rfl) rfl ⟨rfl, h73, (Grow.sto_young (Grow.sto_young (((((((Grow.refl (.pointer (some ⟨ba0, 0, none⟩)) _).trans (Grow.up hu4.out)).trans (Grow.up hu7.out)).trans hs16.out).trans hs27.out).trans (Grow.up hu33.out)).trans hs40.out) hs63.out (Nat.le_trans (Nat.le_refl _) lbb2.out)) hs71.out (Nat.le_trans (hu4.out.size) lbb5.out))⟩

set_option maxHeartbeats 40000000 in
set_option maxRecDepth 100000 in
theorem spec_l06Bad.calls (K : Nat) (ba0 : Nat) (a0_0_A : Option Addr) (a0_0_c : Nat) (a0_0 : List (Int)) (a0_1 : Int) (a0_2 : Int) (a1 : Int) (a2_0 : Int) (a2_1 : Int) (a2_2 : Int) (r0 : Int) (r1 : Int) (r2 : Int) (r3 : Int) (r4 : Int) (w : World) (ha0 : Blk w ba0 [.slice a0_0_A a0_0.length a0_0_c, .int .i64 a0_1, .int .u64 a0_2] 105) (ha0_0 : Rd eU8 w a0_0_A a0_0) (haa0_0 : ∀ k, blk (.slice a0_0_A a0_0.length a0_0_c) = some k → 0 < a0_0.length → k ≠ ba0) (h : spec_l06Bad.f K a0_0 a0_1 a0_2 a1 a2_0 a2_1 a2_2 = some (r0, r1, r2, r3, r4)) :
    Calls Tryz.prog 80 #[.pointer (some ⟨ba0, 0, none⟩), .int .i64 a1, .agg #[.int .i64 a2_0, .int .i64 a2_1, .int .i64 a2_2]] w fun e w' => e = .returned (.agg #[.int .i64 r0, .int .i64 r1, .int .i64 r2]) ∧ Blk w' ba0 [.slice a0_0_A a0_0.length a0_0_c, .int .i64 r3, .int .u64 r4] 105 ∧ Grow (.pointer (some ⟨ba0, 0, none⟩)) w w' := by
 have H : (((spec_l01Next.f K a0_0 a0_1 a0_2 40).bind fun (t10, t11, t12) => (if (t10 == 0) = true then ((spec_l01BadPoint.f K a0_0 t11 t12 a1 (-1) 0).bind fun (t22, t23, t24, t25) => some (t22, t23, a2_2, t24, t25)) else (if (t10 == 1) = true then ((spec_l01Pick.f K a0_0 t11 t12 ([(-1), a1, 1099511627776])).bind fun (t51, t52, t53) => some (a2_0, a2_1, t51, t52, t53)) else some (a2_0, a2_1, a2_2, t11, t12)))) : Option (Int × Int × Int × Int × Int)) = some (r0, r1, r2, r3, r4) := h
 clear h
 obtain ⟨⟨t10, t11, t12⟩,A13,H⟩:=bnd H;try dsimp only at H
 have ltba0 := Aside0.mk ha0.lt
 go_enter Tryz.func80, Tryz.ntmps80
 refine wp_hide (fun Qf hQf => ?_)
 refine wsr fun _ hK1=>?_
 refine stp (cs := [.int .i64 a2_0, .int .i64 a2_1, .int .i64 a2_2]) (T := 27) ?_
 intro b2 w3 hu4 lbb2 ltb2 hb2
 simp only[nm]
 refine stp (cs := [.int .i64 0, .int .i64 0, .int .i64 0]) (T := 27) ?_
 intro b5 w6 hu7 lbb5 ltb5 hb5
 simp only[nm]
 refine wln (hK1 _ _ ?_)
 refine wp_seq_k fun K8 hK8=>?_
 refine wsr fun _ hK9=>?_
 refine wpp fun k h=>?_;go_simp;apply h;clear h k
 refine step_call wn (by go_simp <;> rfl) (spec_l01Next.calls K ba0 a0_0_A a0_0_c a0_0 a0_1 a0_2 40 t10 t11 t12 w6 (ha0.up (hu4.out.trans hu7.out)) (ha0_0.up (hu4.out.trans hu7.out)) haa0_0 A13.out) ?_
 rintro e w14 ⟨rfl, h15, hs⟩
 have hs16 := Aside0.mk hs
 clear hs
 have h17 := (ha0_0.up (hu4.out.trans hu7.out)).growp hs16.out haa0_0
 have h18 := (hb2.up hu7.out).grow hs16.out (fun k hk e => (Nat.ne_of_lt (Nat.lt_of_lt_of_le ltba0.out lbb2.out)) ((Option.some.inj hk).trans e))
 have h19 := hb5.grow hs16.out (fun k hk e => (Nat.ne_of_lt (Nat.lt_of_lt_of_le (Nat.lt_of_lt_of_le ltba0.out (hu4.out.size)) lbb5.out)) ((Option.some.inj hk).trans e))
 refine ⟨_, rfl, ?_⟩
 simp only[nm]
 refine wln (hK9 _ _ ?_)
 refine wp_block ?_
 refine wsr fun _ hK20=>?_
 iterate 2 (refine wpp fun k h=>?_;go_simp;apply h;clear h k)
 refine wln (hK20 _ _ ?_)
 by_cases c21 : (t10 == 0) = true
 ·
  rw [if_pos c21] at H
  have c21n : (t10 != 0) = false := by rw [bne, c21]; rfl
  obtain ⟨⟨t22, t23, t24, t25⟩,A26,H⟩:=bnd H;try dsimp only at H
  simp only [Option.some.injEq, Prod.mk.injEq] at H
  obtain ⟨rfl, rfl, rfl, rfl, rfl⟩ := H
  try simp only [c21, c21n, Bool.not_true, Bool.not_false]
  refine wp_cond_true rfl ?_
  refine wp_region_lit ?_
  iterate 3 (refine wpp fun k h=>?_;go_simp;apply h;clear h k)
  refine step_call wn (by go_simp <;> rfl) (spec_l01BadPoint.calls K ba0 a0_0_A a0_0_c a0_0 t11 t12 a1 (-1) 0 t22 t23 t24 t25 w14 h15 h17 haa0_0 A26.out) ?_
  rintro e w27 ⟨rfl, h28, hs⟩
  have hs29 := Aside0.mk hs
  clear hs
  have h31 := h18.grow hs29.out (fun k hk e => (Nat.ne_of_lt (Nat.lt_of_lt_of_le ltba0.out lbb2.out)) ((Option.some.inj hk).trans e))
  have h32 := h19.grow hs29.out (fun k hk e => (Nat.ne_of_lt (Nat.lt_of_lt_of_le (Nat.lt_of_lt_of_le ltba0.out (hu4.out.size)) lbb5.out)) ((Option.some.inj hk).trans e))
  refine ⟨_, rfl, ?_⟩
  simp only[nm]
  refine wpp fun k h=>?_;go_simp;apply h;clear h k
  have hB0 := h31
  have cl0 := hB0.cell (o := 0) rfl
  have fr0 := hB0.free 0
  have cl1 := hB0.cell (o := 1) rfl
  have fr1 := hB0.free 1
  refine step_store (b := b2) (cs' := [.int .i64 t22, .int .i64 t23, .int .i64 a2_2]) (T := 27) (W' := ((w27.setCell ⟨b2, 0, none⟩ (.int .i64 t22)).setCell ⟨b2, 1, none⟩ (.int .i64 t23))) rfl rfl (by go_simp <;> rfl) (((Sto.refl _ _).setCell 0 _).setCell 1 _) (((hB0).setCell 0 _).setCell 1 _) ?_
  clear hB0 cl0 fr0 cl1 fr1
  intro w33 hs hb35
  have hs34 := Aside0.mk hs
  clear hs
  have h36 := h28.sto hs34.out (Nat.ne_of_lt (Nat.lt_of_lt_of_le ltba0.out lbb2.out))
  have h38 := h32.sto hs34.out (Ne.symm (Nat.ne_of_lt (Nat.lt_of_lt_of_le ltb2.out lbb5.out)))
  refine wln (hK8 _ _ ?_)
  refine wsr fun _ hK39=>?_
  have cl0 := hb35.cell (o := 0) rfl
  have cl1 := hb35.cell (o := 1) rfl
  have cl2 := hb35.cell (o := 2) rfl
  refine wpp fun k h=>?_;go_simp;apply h;clear h k
  clear cl0 cl1 cl2
  refine stw [.int .i64 t22, .int .i64 t23, .int .i64 a2_2] h38 rfl rfl rfl rfl rfl (by kernel_rfl) rfl rfl ?_
  intro w40 hs41 hb42
  have h43 := h36.sto hs41.out (Nat.ne_of_lt (Nat.lt_of_lt_of_le (Nat.lt_of_lt_of_le ltba0.out (hu4.out.size)) lbb5.out))
  refine wln (hK39 _ _ ?_)
  refine wp_ret ?_
  refine hQf _ _ _ ?_
  have cr0 := hb42.cell (o := 0) rfl
  have cr1 := hb42.cell (o := 1) rfl
  have cr2 := hb42.cell (o := 2) rfl
  exact bodyPost_ret (v := .agg #[.int .i64 t22, .int .i64 t23, .int .i64 a2_2]) (by first|rfl|simp [results, Tryz.results80, go_sem, cr0, cr1, cr2]<;>rfl) rfl ⟨rfl, h43, (Grow.sto_young (Grow.sto_young (((((Grow.refl (.pointer (some ⟨ba0, 0, none⟩)) _).trans (Grow.up hu4.out)).trans (Grow.up hu7.out)).trans hs16.out).trans hs29.out) hs34.out (Nat.le_trans (Nat.le_refl _) lbb2.out)) hs41.out (Nat.le_trans (hu4.out.size) lbb5.out))⟩
 rw [if_neg c21] at H; replace c21 := Bool.eq_false_iff.mpr c21
 have c21n : (t10 != 0) = true := by rw [bne, c21]; rfl
 have c21p : ¬ t10 = 0 := fun e => by simp [e] at c21
 try simp only [c21, c21n, Bool.not_true, Bool.not_false]
 refine wp_cond_false rfl ?_
 refine wsr fun _ hK46=>?_
 iterate 2 (refine wpp fun k h=>?_;go_simp;apply h;clear h k)
 refine wln (hK46 _ _ ?_)
 by_cases c47 : (t10 == 1) = true
 rotate_left
 ·
  rw [if_neg c47] at H; replace c47 := Bool.eq_false_iff.mpr c47
  have c47n : (t10 != 1) = true := by rw [bne, c47]; rfl
  have c47p : ¬ t10 = 1 := fun e => by simp [e] at c47
  simp only [Option.some.injEq, Prod.mk.injEq] at H
  obtain ⟨rfl, rfl, rfl, rfl, rfl⟩ := H
  try simp only [c47, c47n, Bool.not_true, Bool.not_false]
  refine wp_cond_false rfl ?_
  refine wp_skip ?_
  refine hK8 _ _ ?_
  refine wsr fun _ hK76=>?_
  have cl0 := h18.cell (o := 0) rfl
  have cl1 := h18.cell (o := 1) rfl
  have cl2 := h18.cell (o := 2) rfl
  refine wpp fun k h=>?_;go_simp;apply h;clear h k
  clear cl0 cl1 cl2
  refine stw [.int .i64 a2_0, .int .i64 a2_1, .int .i64 a2_2] h19 rfl rfl rfl rfl rfl (by kernel_rfl) rfl rfl ?_
  intro w77 hs78 hb79
  have h80 := h15.sto hs78.out (Nat.ne_of_lt (Nat.lt_of_lt_of_le (Nat.lt_of_lt_of_le ltba0.out (hu4.out.size)) lbb5.out))
  refine wln (hK76 _ _ ?_)
  refine wp_ret ?_
  refine hQf _ _ _ ?_
  have cr0 := hb79.cell (o := 0) rfl
  have cr1 := hb79.cell (o := 1) rfl
  have cr2 := hb79.cell (o := 2) rfl
  exact bodyPost_ret (v := .agg #[.int .i64 a2_0, .int .i64 a2_1, .int .i64 a2_2]) (by first|rfl|simp [results, Tryz.results80, go_sem, cr0, cr1, cr2]<;>rfl) rfl ⟨rfl, h80, (Grow.sto_young ((((Grow.refl (.pointer (some ⟨ba0, 0, none⟩)) _).trans (Grow.up hu4.out)).trans (Grow.up hu7.out)).trans hs16.out) hs78.out (Nat.le_trans (hu4.out.size) lbb5.out))⟩
 rw [if_pos c47] at H
 have c47n : (t10 != 1) = false := by rw [bne, c47]; rfl
 obtain ⟨⟨t51, t52, t53⟩,A54,H⟩:=bnd H;try dsimp only at H
 simp only [Option.some.injEq, Prod.mk.injEq] at H
 obtain ⟨rfl, rfl, rfl, rfl, rfl⟩ := H
 try simp only [c47, c47n, Bool.not_true, Bool.not_false]
 refine wp_cond_true rfl ?_
 refine wp_region_lit ?_
 iterate 2 (refine wpp fun k h=>?_;go_simp;apply h;clear h k)
 refine step_new (cs := [.int .i64 (-1), .int .i64 a1, .int .i64 1099511627776]) (T := 2) (f := fun b => .slice (some ⟨b, 0, none⟩) 3 3) rfl (by go_simp <;> rfl) ?_
 intro b48 w49 hu lb hb48
 simp only[nm]
 have lbb48 := Aside0.mk lb
 clear lb
 have hu50 := Aside0.mk hu
 clear hu
 refine step_call wn (by go_simp <;> rfl) (spec_l01Pick.calls K ba0 a0_0_A a0_0_c a0_0 t11 t12 (some ⟨b48, 0, none⟩) 3 ([(-1), a1, 1099511627776]) t51 t52 t53 w49 (h15.up hu50.out) (h17.up hu50.out) haa0_0 (Rd.of_blk (E := eI) (xs := [(-1), a1, 1099511627776]) (o := 0) hb48 (by simp) (fun j u hu => by rcases j with _ | _ | _ | j <;> simp_all [Enc.flat, eI])) (fun k hk hp e => (Ne.symm (Nat.ne_of_lt (Nat.lt_of_lt_of_le (Nat.lt_of_lt_of_le ltba0.out ((Nat.le_trans ((Nat.le_trans (hu4.out.size) hu7.out.size)) hs16.out.size))) lbb48.out))) ((Option.some.inj hk).trans e)) A54.out) ?_
 rintro e w55 ⟨rfl, h56, hs⟩
 have hs57 := Aside0.mk hs
 clear hs
 have h59 := (h18.up hu50.out).grow hs57.out (fun k hk e => (Nat.ne_of_lt (Nat.lt_of_lt_of_le ltba0.out lbb2.out)) ((Option.some.inj hk).trans e))
 have h60 := (h19.up hu50.out).grow hs57.out (fun k hk e => (Nat.ne_of_lt (Nat.lt_of_lt_of_le (Nat.lt_of_lt_of_le ltba0.out (hu4.out.size)) lbb5.out)) ((Option.some.inj hk).trans e))
 refine ⟨_, rfl, ?_⟩
 simp only[nm]
 refine wpp fun k h=>?_;go_simp;apply h;clear h k
 have hB0 := h59
 have cl0 := hB0.cell (o := 2) rfl
 have fr0 := hB0.free 2
 refine step_store (b := b2) (cs' := [.int .i64 a2_0, .int .i64 a2_1, .int .i64 t51]) (T := 27) (W' := (w55.setCell ⟨b2, 2, none⟩ (.int .i64 t51))) rfl rfl (by go_simp <;> rfl) ((Sto.refl _ _).setCell 2 _) ((hB0).setCell 2 _) ?_
 clear hB0 cl0 fr0
 intro w62 hs hb64
 have hs63 := Aside0.mk hs
 clear hs
 have h65 := h56.sto hs63.out (Nat.ne_of_lt (Nat.lt_of_lt_of_le ltba0.out lbb2.out))
 have h67 := h60.sto hs63.out (Ne.symm (Nat.ne_of_lt (Nat.lt_of_lt_of_le ltb2.out lbb5.out)))
 refine wln (hK8 _ _ ?_)
 refine wsr fun _ hK69=>?_
 have cl0 := hb64.cell (o := 0) rfl
 have cl1 := hb64.cell (o := 1) rfl
 have cl2 := hb64.cell (o := 2) rfl
 refine wpp fun k h=>?_;go_simp;apply h;clear h k
 clear cl0 cl1 cl2
 refine stw [.int .i64 a2_0, .int .i64 a2_1, .int .i64 t51] h67 rfl rfl rfl rfl rfl (by kernel_rfl) rfl rfl ?_
 intro w70 hs71 hb72
 have h73 := h65.sto hs71.out (Nat.ne_of_lt (Nat.lt_of_lt_of_le (Nat.lt_of_lt_of_le ltba0.out (hu4.out.size)) lbb5.out))
 refine wln (hK69 _ _ ?_)
 refine wp_ret ?_
 refine hQf _ _ _ ?_
 have cr0 := hb72.cell (o := 0) rfl
 have cr1 := hb72.cell (o := 1) rfl
 have cr2 := hb72.cell (o := 2) rfl
 exact bodyPost_ret (v := .agg #[.int .i64 a2_0, .int .i64 a2_1, .int .i64 t51]) (by first|rfl|simp [results, Tryz.results80, go_sem, cr0, cr1, cr2]<;>rfl) rfl ⟨rfl, h73, (Grow.sto_young (Grow.sto_young ((((((Grow.refl (.pointer (some ⟨ba0, 0, none⟩)) _).trans (Grow.up hu4.out)).trans (Grow.up hu7.out)).trans hs16.out).trans (Grow.up hu50.out)).trans hs57.out) hs63.out (Nat.le_trans (Nat.le_refl _) lbb2.out)) hs71.out (Nat.le_trans (hu4.out.size) lbb5.out))⟩

set_option maxHeartbeats 40000000 in
set_option maxRecDepth 100000 in
theorem spec_l06With.calls (K : Nat) (a0_A : Option Addr) (a0_c : Nat) (a0 : List (Int)) (r0 : Int) (r1 : Int) (r2 : Int) (r3 : Int) (r4 : Int) (r5 : Int) (r6 : Int) (w : World) (ha0 : Rd eU8 w a0_A a0) (h : spec_l06With.f K a0 = some (r0, r1, r2, r3, r4, r5, r6)) :
    Calls Tryz.prog 25 #[.slice a0_A a0.length a0_c] w fun e w' => e = .returned (.tuple #[.int .i64 r0, .int .i64 r1, .agg #[.int .i64 r2, .int .i64 r3, .int .i64 r4], .agg #[.int .i64 r5, .int .i64 r6]]) ∧ Up w w' := by
 have H : (((spec_l01From.f K a0).bind fun (t10, t11) => ((spec_l01DrawField.f K a0 t10 t11).bind fun (t16, t17, t18) => ((spec_l06DrawOf.f K a0 t17 t18 t16).bind fun (t24, t25, t26, t27, t28) => ((spec_l01DrawPoint.f K a0 t27 t28 t16).bind fun (t33, t34, t35, t36) => ((spec_l02DrawColour.f K a0 t35 t36).bind fun (t41, t42, t43) => ((spec_l02Colour.f K t41).bind fun t64 => (if t64 = true then ((spec_l01Next.f K a0 t42 t43 2).bind fun (t73, t74, t75) => (if (t73 == 0) = true then ((spec_l02At.f K t16 t41 t24 t25 t26).bind fun t87 => (if decide (0 < (t87.length : Int)) = true then ((spec_l01Next.f K a0 t74 t75 (t87.length : Int)).bind fun (t95, t96, t97) => ((idx t87 t95).bind fun (t107, t108) => ((spec_l01BadField.f K a0 t96 t97 t16).bind fun (t126, t127, t128) => ((spec_l06Bad.f K a0 t127 t128 t16 t24 t25 t26).bind fun (t137, t138, t139, t140, t141) => ((spec_l01BadPoint.f K a0 t140 t141 t16 t107 t108).bind fun (t150, t151, t152, t153) => some (t126, t41, t137, t138, t139, t150, t151)))))) else ((spec_l01BadField.f K a0 t74 t75 t16).bind fun (t181, t182, t183) => ((spec_l06Bad.f K a0 t182 t183 t16 t24 t25 t26).bind fun (t192, t193, t194, t195, t196) => ((spec_l01BadPoint.f K a0 t195 t196 t16 t33 t34).bind fun (t205, t206, t207, t208) => some (t181, t41, t192, t193, t194, t205, t206)))))) else ((spec_l01BadField.f K a0 t74 t75 t16).bind fun (t236, t237, t238) => ((spec_l06Bad.f K a0 t237 t238 t16 t24 t25 t26).bind fun (t247, t248, t249, t250, t251) => ((spec_l01BadPoint.f K a0 t250 t251 t16 t33 t34).bind fun (t260, t261, t262, t263) => some (t236, t41, t247, t248, t249, t260, t261)))))) else ((spec_l01BadField.f K a0 t42 t43 t16).bind fun (t291, t292, t293) => ((spec_l06Bad.f K a0 t292 t293 t16 t24 t25 t26).bind fun (t302, t303, t304, t305, t306) => ((spec_l01BadPoint.f K a0 t305 t306 t16 t33 t34).bind fun (t315, t316, t317, t318) => some (t291, t41, t302, t303, t304, t315, t316))))))))))) : Option (Int × Int × Int × Int × Int × Int × Int)) = some (r0, r1, r2, r3, r4, r5, r6) := h
 clear h
 obtain ⟨⟨t10, t11⟩,A12,H⟩:=bnd H;try dsimp only at H
 obtain ⟨⟨t16, t17, t18⟩,A19,H⟩:=bnd H;try dsimp only at H
 obtain ⟨⟨t24, t25, t26, t27, t28⟩,A29,H⟩:=bnd H;try dsimp only at H
 obtain ⟨⟨t33, t34, t35, t36⟩,A37,H⟩:=bnd H;try dsimp only at H
 obtain ⟨⟨t41, t42, t43⟩,A44,H⟩:=bnd H;try dsimp only at H
 obtain ⟨t64,A65,H⟩:=bnd H;try dsimp only at H
 go_enter Tryz.func25, Tryz.ntmps25
 refine wp_hide (fun Qf hQf => ?_)
 refine wsr fun _ hK1=>?_
 iterate 2 (refine wpp fun k h=>?_;go_simp;apply h;clear h k)
 refine stp (cs := [.int .i64 0, .int .i64 0, .int .i64 0]) (T := 27) ?_
 intro b2 w3 hu4 lbb2 ltb2 hb2
 simp only[nm]
 refine stp (cs := [.int .i64 0, .int .i64 0]) (T := 25) ?_
 intro b5 w6 hu7 lbb5 ltb5 hb5
 simp only[nm]
 refine wln (hK1 _ _ ?_)
 refine wsr fun _ hK8=>?_
 refine wpp fun k h=>?_;go_simp;apply h;clear h k
 refine step_call wn (by go_simp <;> rfl) (spec_l01From.calls K a0_A a0_c a0 t10 t11 w6 (ha0.up (hu4.out.trans hu7.out)) A12.out) ?_
 rintro e w13 ⟨b9, rfl, hb9, lb, hu⟩
 have lbb9 := lb
 have ltb9 := Aside0.mk hb9.lt
 clear lb
 have hu14 := Aside0.mk hu
 clear hu
 refine ⟨_, rfl, ?_⟩
 simp only[nm]
 refine wpp fun k h=>?_;go_simp;apply h;clear h k
 refine wln (hK8 _ _ ?_)
 refine wsr fun _ hK15=>?_
 refine wpp fun k h=>?_;go_simp;apply h;clear h k
 refine step_call wn (by go_simp <;> rfl) (spec_l01DrawField.calls K b9 a0_A a0_c a0 t10 t11 t16 t17 t18 w13 hb9 (ha0.up ((hu4.out.trans hu7.out).trans hu14.out)) (fun k hk hp => Nat.ne_of_lt (Nat.lt_of_lt_of_le ((ha0.up (hu4.out.trans hu7.out)).blk_lt hp k hk) lbb9.out)) A19.out) ?_
 rintro e w20 ⟨rfl, h21, hs⟩
 have hs22 := Aside0.mk hs
 clear hs
 refine ⟨_, rfl, ?_⟩
 simp only[nm]
 refine wpp fun k h=>?_;go_simp;apply h;clear h k
 refine wln (hK15 _ _ ?_)
 refine wsr fun _ hK23=>?_
 iterate 2 (refine wpp fun k h=>?_;go_simp;apply h;clear h k)
 refine step_call wn (by go_simp <;> rfl) (spec_l06DrawOf.calls K b9 a0_A a0_c a0 t17 t18 t16 t24 t25 t26 t27 t28 w20 h21 (ha0.up (((hu4.out.trans hu7.out).trans hu14.out).grow hs22.out (fun k hk => Nat.le_trans ((Nat.le_trans (hu4.out.size) hu7.out.size)) ((fun k hk => Nat.le_trans lbb9.out (Nat.le_of_eq (Option.some.inj hk))) k hk)))) (fun k hk hp => Nat.ne_of_lt (Nat.lt_of_lt_of_le ((ha0.up (hu4.out.trans hu7.out)).blk_lt hp k hk) lbb9.out)) A29.out) ?_
 rintro e w30 ⟨rfl, h31, hs⟩
 have hs32 := Aside0.mk hs
 clear hs
 refine ⟨_, rfl, ?_⟩
 simp only[nm]
 iterate 2 (refine wpp fun k h=>?_;go_simp;apply h;clear h k)
 refine step_call wn (by go_simp <;> rfl) (spec_l01DrawPoint.calls K b9 a0_A a0_c a0 t27 t28 t16 t33 t34 t35 t36 w30 h31 (ha0.up ((((hu4.out.trans hu7.out).trans hu14.out).grow hs22.out (fun k hk => Nat.le_trans ((Nat.le_trans (hu4.out.size) hu7.out.size)) ((fun k hk => Nat.le_trans lbb9.out (Nat.le_of_eq (Option.some.inj hk))) k hk))).grow hs32.out (fun k hk => Nat.le_trans ((Nat.le_trans (hu4.out.size) hu7.out.size)) ((fun k hk => Nat.le_trans lbb9.out (Nat.le_of_eq (Option.some.inj hk))) k hk)))) (fun k hk hp => Nat.ne_of_lt (Nat.lt_of_lt_of_le ((ha0.up (hu4.out.trans hu7.out)).blk_lt hp k hk) lbb9.out)) A37.out) ?_
 rintro e w38 ⟨rfl, h39, hs⟩
 have hs40 := Aside0.mk hs
 clear hs
 refine ⟨_, rfl, ?_⟩
 simp only[nm]
 refine wpp fun k h=>?_;go_simp;apply h;clear h k
 refine step_call wn (by go_simp <;> rfl) (spec_l02DrawColour.calls K b9 a0_A a0_c a0 t35 t36 t41 t42 t43 w38 h39 (ha0.up (((((hu4.out.trans hu7.out).trans hu14.out).grow hs22.out (fun k hk => Nat.le_trans ((Nat.le_trans (hu4.out.size) hu7.out.size)) ((fun k hk => Nat.le_trans lbb9.out (Nat.le_of_eq (Option.some.inj hk))) k hk))).grow hs32.out (fun k hk => Nat.le_trans ((Nat.le_trans (hu4.out.size) hu7.out.size)) ((fun k hk => Nat.le_trans lbb9.out (Nat.le_of_eq (Option.some.inj hk))) k hk))).grow hs40.out (fun k hk => Nat.le_trans ((Nat.le_trans (hu4.out.size) hu7.out.size)) ((fun k hk => Nat.le_trans lbb9.out (Nat.le_of_eq (Option.some.inj hk))) k hk)))) (fun k hk hp => Nat.ne_of_lt (Nat.lt_of_lt_of_le ((ha0.up (hu4.out.trans hu7.out)).blk_lt hp k hk) lbb9.out)) A44.out) ?_
 rintro e w45 ⟨rfl, h46, hs⟩
 have hs47 := Aside0.mk hs
 clear hs
 refine ⟨_, rfl, ?_⟩
 simp only[nm]
 refine stp (cs := [.int .i64 0, .int .i64 0, .int .i64 0]) (T := 27) ?_
 intro b48 w49 hu50 lbb48 ltb48 hb48
 simp only[nm]
 refine stp (cs := [.int .i64 0, .int .i64 0]) (T := 25) ?_
 intro b51 w52 hu53 lbb51 ltb51 hb51
 simp only[nm]
 refine stw [.int .i64 t24, .int .i64 t25, .int .i64 t26] (hb48.up hu53.out) rfl rfl rfl rfl rfl (by kernel_rfl) rfl rfl ?_
 intro w54 hs55 hb56
 have h57 := hb51.sto hs55.out (Ne.symm (Nat.ne_of_lt (Nat.lt_of_lt_of_le ltb48.out lbb51.out)))
 refine stw [.int .i64 t33, .int .i64 t34] h57 rfl rfl rfl rfl rfl (by kernel_rfl) rfl rfl ?_
 intro w58 hs59 hb60
 have h61 := hb56.sto hs59.out (Nat.ne_of_lt (Nat.lt_of_lt_of_le ltb48.out lbb51.out))
 refine wpp fun k h=>?_;go_simp;apply h;clear h k
 refine wln (hK23 _ _ ?_)
 refine wp_seq_k fun K62 hK62=>?_
 refine wsr fun _ hK63=>?_
 refine wpp fun k h=>?_;go_simp;apply h;clear h k
 refine stc (spec_l02Colour.calls K t41 t64 w58  A65.out) ?_
 intro w66 hu67
 simp only[nm]
 refine wpp fun k h=>?_;go_simp;apply h;clear h k
 have hm69 := Aside0.mk (((((((((((hu4.out.trans hu7.out).trans hu14.out).grow hs22.out (fun k hk => Nat.le_trans ((Nat.le_trans (hu4.out.size) hu7.out.size)) ((fun k hk => Nat.le_trans lbb9.out (Nat.le_of_eq (Option.some.inj hk))) k hk))).grow hs32.out (fun k hk => Nat.le_trans ((Nat.le_trans (hu4.out.size) hu7.out.size)) ((fun k hk => Nat.le_trans lbb9.out (Nat.le_of_eq (Option.some.inj hk))) k hk))).grow hs40.out (fun k hk => Nat.le_trans ((Nat.le_trans (hu4.out.size) hu7.out.size)) ((fun k hk => Nat.le_trans lbb9.out (Nat.le_of_eq (Option.some.inj hk))) k hk))).grow hs47.out (fun k hk => Nat.le_trans ((Nat.le_trans (hu4.out.size) hu7.out.size)) ((fun k hk => Nat.le_trans lbb9.out (Nat.le_of_eq (Option.some.inj hk))) k hk))).trans hu50.out).trans hu53.out).sto (Nat.le_trans ((Nat.le_trans ((Nat.le_trans ((Nat.le_trans ((Nat.le_trans ((Nat.le_trans ((Nat.le_trans (hu4.out.size) hu7.out.size)) hu14.out.size)) hs22.out.size)) hs32.out.size)) hs40.out.size)) hs47.out.size)) lbb48.out) hs55.out).sto (Nat.le_trans ((Nat.le_trans ((Nat.le_trans ((Nat.le_trans ((Nat.le_trans ((Nat.le_trans ((Nat.le_trans ((Nat.le_trans (hu4.out.size) hu7.out.size)) hu14.out.size)) hs22.out.size)) hs32.out.size)) hs40.out.size)) hs47.out.size)) hu50.out.size)) lbb51.out) hs59.out).trans hu67.out)
 have h70 := (hb2.up ((((((((((hu7.out.trans hu14.out).grow hs22.out (fun k hk => Nat.le_trans (hu7.out.size) ((fun k hk => Nat.le_trans lbb9.out (Nat.le_of_eq (Option.some.inj hk))) k hk))).grow hs32.out (fun k hk => Nat.le_trans (hu7.out.size) ((fun k hk => Nat.le_trans lbb9.out (Nat.le_of_eq (Option.some.inj hk))) k hk))).grow hs40.out (fun k hk => Nat.le_trans (hu7.out.size) ((fun k hk => Nat.le_trans lbb9.out (Nat.le_of_eq (Option.some.inj hk))) k hk))).grow hs47.out (fun k hk => Nat.le_trans (hu7.out.size) ((fun k hk => Nat.le_trans lbb9.out (Nat.le_of_eq (Option.some.inj hk))) k hk))).trans hu50.out).trans hu53.out).sto (Nat.le_trans ((Nat.le_trans ((Nat.le_trans ((Nat.le_trans ((Nat.le_trans ((Nat.le_trans (hu7.out.size) hu14.out.size)) hs22.out.size)) hs32.out.size)) hs40.out.size)) hs47.out.size)) lbb48.out) hs55.out).sto (Nat.le_trans ((Nat.le_trans ((Nat.le_trans ((Nat.le_trans ((Nat.le_trans ((Nat.le_trans ((Nat.le_trans (hu7.out.size) hu14.out.size)) hs22.out.size)) hs32.out.size)) hs40.out.size)) hs47.out.size)) hu50.out.size)) lbb51.out) hs59.out).trans hu67.out))
 have h71 := (hb5.up (((((((((hu14.out.grow hs22.out (fun k hk => Nat.le_trans (Nat.le_refl _) ((fun k hk => Nat.le_trans lbb9.out (Nat.le_of_eq (Option.some.inj hk))) k hk))).grow hs32.out (fun k hk => Nat.le_trans (Nat.le_refl _) ((fun k hk => Nat.le_trans lbb9.out (Nat.le_of_eq (Option.some.inj hk))) k hk))).grow hs40.out (fun k hk => Nat.le_trans (Nat.le_refl _) ((fun k hk => Nat.le_trans lbb9.out (Nat.le_of_eq (Option.some.inj hk))) k hk))).grow hs47.out (fun k hk => Nat.le_trans (Nat.le_refl _) ((fun k hk => Nat.le_trans lbb9.out (Nat.le_of_eq (Option.some.inj hk))) k hk))).trans hu50.out).trans hu53.out).sto (Nat.le_trans ((Nat.le_trans ((Nat.le_trans ((Nat.le_trans ((Nat.le_trans (hu14.out.size) hs22.out.size)) hs32.out.size)) hs40.out.size)) hs47.out.size)) lbb48.out) hs55.out).sto (Nat.le_trans ((Nat.le_trans ((Nat.le_trans ((Nat.le_trans ((Nat.le_trans ((Nat.le_trans (hu14.out.size) hs22.out.size)) hs32.out.size)) hs40.out.size)) hs47.out.size)) hu50.out.size)) lbb51.out) hs59.out).trans hu67.out))
 have h72 := (h46.up ((((hu50.out.trans hu53.out).sto (Nat.le_trans (Nat.le_refl _) lbb48.out) hs55.out).sto (Nat.le_trans (hu50.out.size) lbb51.out) hs59.out).trans hu67.out))
 by_cases c68 : (t64) = true
 rotate_left
 ·
  rw [if_neg c68] at H; replace c68 := Bool.eq_false_iff.mpr c68
  subst c68
  obtain ⟨⟨t291, t292, t293⟩,A294,H⟩:=bnd H;try dsimp only at H
  obtain ⟨⟨t302, t303, t304, t305, t306⟩,A307,H⟩:=bnd H;try dsimp only at H
  obtain ⟨⟨t315, t316, t317, t318⟩,A319,H⟩:=bnd H;try dsimp only at H
  simp only [Option.some.injEq, Prod.mk.injEq] at H
  obtain ⟨rfl, rfl, rfl, rfl, rfl, rfl, rfl⟩ := H
  refine step_no rfl ?_
  simp only[nm]
  refine step_no rfl ?_
  simp only[nm]
  refine step_no rfl ?_
  simp only[nm]
  refine wpp fun k h=>?_;go_simp;apply h;clear h k
  refine wln (hK63 _ _ ?_)
  refine wp_cond_false rfl ?_
  refine wp_skip ?_
  refine hK62 _ _ ?_
  refine wp_seq_k fun K286 hK286=>?_
  have hTT_ : ∀ w_, Up (World.drew w66) w_ → (fun w_ => Blk w_ b48 [.int .i64 t24, .int .i64 t25, .int .i64 t26] 27 ∧ Blk w_ b51 [.int .i64 t33, .int .i64 t34] 25 ∧ True) w_ := fun w_ hu_ => ⟨(h61.up hu67.out).up ((Up.refl _).drew.trans hu_), (hb60.up hu67.out).up ((Up.refl _).drew.trans hu_), True.intro⟩
  refine' wp_region_mix (fun w_ => Blk w_ b48 [.int .i64 t24, .int .i64 t25, .int .i64 t26] 27 ∧ Blk w_ b51 [.int .i64 t33, .int .i64 t34] 25 ∧ True) [0, 1, 3, 4, 5, 6, 8, 9, 10] [2, 7, 11, 12, 13, 14, 15] [Slot.pur _, Slot.pur _, Slot.pur _, Slot.pur _, Slot.pur _, Slot.pur _, Slot.pur _, Slot.pur _, Slot.pur _] (by kernel_rfl) (by kernel_rfl) rfl rfl hTT_ ?main
  case main =>
   simp only [pick, List.drop_succ_cons, List.drop_zero]
   refine wpK_pur rfl hTT_ (fun w1 hT => ?_) ?_
   · clear hT
     go_simp
     first | done | rfl
   simp only[nm]
   refine wpK_pur rfl hTT_ (fun w1 hT => ?_) ?_
   · clear hT
     go_simp
     first | done | rfl
   simp only[nm]
   refine wpK_pur rfl hTT_ (fun w1 hT => ?_) ?_
   · clear hT
     go_simp
     first | done | rfl
   simp only[nm]
   refine wpK_pur rfl hTT_ (fun w1 hT => ?_) ?_
   · clear hT
     go_simp
     first | done | rfl
   simp only[nm]
   refine wpK_pur rfl hTT_ (fun w1 hT => ?_) ?_
   · clear hT
     go_simp
     first | done | rfl
   simp only[nm]
   refine wpK_pur rfl hTT_ (fun w1 hT => ?_) ?_
   · have hB_ := hT.1
     have cl0 := hB_.cell (o := 0) rfl
     have cl1 := hB_.cell (o := 1) rfl
     have cl2 := hB_.cell (o := 2) rfl
     clear hT
     go_simp
     first | done | rfl
   simp only[nm]
   refine wpK_pur rfl hTT_ (fun w1 hT => ?_) ?_
   · clear hT
     go_simp
     first | done | rfl
   simp only[nm]
   refine wpK_pur rfl hTT_ (fun w1 hT => ?_) ?_
   · clear hT
     go_simp
     first | done | rfl
   simp only[nm]
   refine wpK_pur rfl hTT_ (fun w1 hT => ?_) ?_
   · have hB_ := hT.2.1
     have cl0 := hB_.cell (o := 0) rfl
     have cl1 := hB_.cell (o := 1) rfl
     clear hT
     go_simp
     first | done | rfl
   simp only[nm]
   refine wpK_nil ?_
   intro w289 hu
   replace hu := (Up.refl _).drew.trans hu
   have hu290 := Aside0.mk hu
   clear hu
   refine late_consT ⟨(h61.up (hu67.out.trans hu290.out)), (hb60.up (hu67.out.trans hu290.out)), True.intro⟩ ?_
   refine step_call wn (by go_simp <;> rfl) (spec_l01BadField.calls K b9 a0_A a0_c a0 t42 t43 t16 t291 t292 t293 w289 (h72.up hu290.out) (ha0.up (hm69.out.trans hu290.out)) (fun k hk hp => Nat.ne_of_lt (Nat.lt_of_lt_of_le ((ha0.up (hu4.out.trans hu7.out)).blk_lt hp k hk) lbb9.out)) A294.out) ?_
   rintro e w295 ⟨rfl, h296, hs⟩
   have hs297 := Aside0.mk hs
   clear hs
   have h298 := (h70.up hu290.out).grow hs297.out (fun k hk e => (Ne.symm (Nat.ne_of_lt (Nat.lt_of_lt_of_le (Nat.lt_of_lt_of_le ltb2.out (hu7.out.size)) lbb9.out))) ((Option.some.inj hk).trans e))
   have h299 := (h71.up hu290.out).grow hs297.out (fun k hk e => (Ne.symm (Nat.ne_of_lt (Nat.lt_of_lt_of_le ltb5.out lbb9.out))) ((Option.some.inj hk).trans e))
   have h300 := (h61.up (hu67.out.trans hu290.out)).grow hs297.out (fun k hk e => (Nat.ne_of_lt (Nat.lt_of_lt_of_le (Nat.lt_of_lt_of_le ltb9.out ((Nat.le_trans ((Nat.le_trans ((Nat.le_trans (hs22.out.size) hs32.out.size)) hs40.out.size)) hs47.out.size))) lbb48.out)) ((Option.some.inj hk).trans e))
   have h301 := (hb60.up (hu67.out.trans hu290.out)).grow hs297.out (fun k hk e => (Nat.ne_of_lt (Nat.lt_of_lt_of_le (Nat.lt_of_lt_of_le ltb9.out ((Nat.le_trans ((Nat.le_trans ((Nat.le_trans ((Nat.le_trans (hs22.out.size) hs32.out.size)) hs40.out.size)) hs47.out.size)) hu50.out.size))) lbb51.out)) ((Option.some.inj hk).trans e))
   refine ⟨_, rfl, ?_⟩
   simp only[nm]
   refine wpList_nil ?_
   refine wrapQ_k ?_
   refine late_consT ⟨h300, h301, True.intro⟩ ?_
   refine step_call wn (by go_simp <;> rfl) (spec_l06Bad.calls K b9 a0_A a0_c a0 t292 t293 t16 t24 t25 t26 t302 t303 t304 t305 t306 w295 h296 (ha0.up ((hm69.out.trans hu290.out).grow hs297.out (fun k hk => Nat.le_trans ((Nat.le_trans (hu4.out.size) hu7.out.size)) ((fun k hk => Nat.le_trans lbb9.out (Nat.le_of_eq (Option.some.inj hk))) k hk)))) (fun k hk hp => Nat.ne_of_lt (Nat.lt_of_lt_of_le ((ha0.up (hu4.out.trans hu7.out)).blk_lt hp k hk) lbb9.out)) A307.out) ?_
   rintro e w308 ⟨rfl, h309, hs⟩
   have hs310 := Aside0.mk hs
   clear hs
   have h311 := h298.grow hs310.out (fun k hk e => (Ne.symm (Nat.ne_of_lt (Nat.lt_of_lt_of_le (Nat.lt_of_lt_of_le ltb2.out (hu7.out.size)) lbb9.out))) ((Option.some.inj hk).trans e))
   have h312 := h299.grow hs310.out (fun k hk e => (Ne.symm (Nat.ne_of_lt (Nat.lt_of_lt_of_le ltb5.out lbb9.out))) ((Option.some.inj hk).trans e))
   have h313 := h300.grow hs310.out (fun k hk e => (Nat.ne_of_lt (Nat.lt_of_lt_of_le (Nat.lt_of_lt_of_le ltb9.out ((Nat.le_trans ((Nat.le_trans ((Nat.le_trans (hs22.out.size) hs32.out.size)) hs40.out.size)) hs47.out.size))) lbb48.out)) ((Option.some.inj hk).trans e))
   have h314 := h301.grow hs310.out (fun k hk e => (Nat.ne_of_lt (Nat.lt_of_lt_of_le (Nat.lt_of_lt_of_le ltb9.out ((Nat.le_trans ((Nat.le_trans ((Nat.le_trans ((Nat.le_trans (hs22.out.size) hs32.out.size)) hs40.out.size)) hs47.out.size)) hu50.out.size))) lbb51.out)) ((Option.some.inj hk).trans e))
   refine ⟨_, rfl, ?_⟩
   simp only[nm]
   refine wpList_nil ?_
   refine wrapQ_k ?_
   refine late_consT ⟨h313, h314, True.intro⟩ ?_
   refine step_call wn (by go_simp <;> rfl) (spec_l01BadPoint.calls K b9 a0_A a0_c a0 t305 t306 t16 t33 t34 t315 t316 t317 t318 w308 h309 (ha0.up (((hm69.out.trans hu290.out).grow hs297.out (fun k hk => Nat.le_trans ((Nat.le_trans (hu4.out.size) hu7.out.size)) ((fun k hk => Nat.le_trans lbb9.out (Nat.le_of_eq (Option.some.inj hk))) k hk))).grow hs310.out (fun k hk => Nat.le_trans ((Nat.le_trans (hu4.out.size) hu7.out.size)) ((fun k hk => Nat.le_trans lbb9.out (Nat.le_of_eq (Option.some.inj hk))) k hk)))) (fun k hk hp => Nat.ne_of_lt (Nat.lt_of_lt_of_le ((ha0.up (hu4.out.trans hu7.out)).blk_lt hp k hk) lbb9.out)) A319.out) ?_
   rintro e w320 ⟨rfl, h321, hs⟩
   have hs322 := Aside0.mk hs
   clear hs
   have h323 := h311.grow hs322.out (fun k hk e => (Ne.symm (Nat.ne_of_lt (Nat.lt_of_lt_of_le (Nat.lt_of_lt_of_le ltb2.out (hu7.out.size)) lbb9.out))) ((Option.some.inj hk).trans e))
   have h324 := h312.grow hs322.out (fun k hk e => (Ne.symm (Nat.ne_of_lt (Nat.lt_of_lt_of_le ltb5.out lbb9.out))) ((Option.some.inj hk).trans e))
   have h325 := h313.grow hs322.out (fun k hk e => (Nat.ne_of_lt (Nat.lt_of_lt_of_le (Nat.lt_of_lt_of_le ltb9.out ((Nat.le_trans ((Nat.le_trans ((Nat.le_trans (hs22.out.size) hs32.out.size)) hs40.out.size)) hs47.out.size))) lbb48.out)) ((Option.some.inj hk).trans e))
   have h326 := h314.grow hs322.out (fun k hk e => (Nat.ne_of_lt (Nat.lt_of_lt_of_le (Nat.lt_of_lt_of_le ltb9.out ((Nat.le_trans ((Nat.le_trans ((Nat.le_trans ((Nat.le_trans (hs22.out.size) hs32.out.size)) hs40.out.size)) hs47.out.size)) hu50.out.size))) lbb51.out)) ((Option.some.inj hk).trans e))
   refine ⟨_, rfl, ?_⟩
   simp only[nm]
   refine wpList_nil ?_
   refine wrapQ_k ?_
   refine late_consT ⟨h325, h326, True.intro⟩ ?_
   refine wpp fun k h=>?_;go_simp;apply h;clear h k
   refine wpList_nil ?_
   refine wrapQ_k ?_
   refine late_consT ⟨h325, h326, True.intro⟩ ?_
   refine wpp fun k h=>?_;go_simp;apply h;clear h k
   refine wpList_nil ?_
   refine wrapQ_k ?_
   refine late_consT ⟨h325, h326, True.intro⟩ ?_
   refine stw [.int .i64 t302, .int .i64 t303, .int .i64 t304] h323 rfl rfl rfl rfl rfl (by kernel_rfl) rfl rfl ?_
   intro w327 hs328 hb329
   have h330 := h324.sto hs328.out (Ne.symm (Nat.ne_of_lt (Nat.lt_of_lt_of_le ltb2.out lbb5.out)))
   have h332 := h325.sto hs328.out (Ne.symm (Nat.ne_of_lt (Nat.lt_of_lt_of_le (Nat.lt_of_lt_of_le ltb2.out ((Nat.le_trans ((Nat.le_trans ((Nat.le_trans ((Nat.le_trans ((Nat.le_trans (hu7.out.size) hu14.out.size)) hs22.out.size)) hs32.out.size)) hs40.out.size)) hs47.out.size))) lbb48.out)))
   have h333 := h326.sto hs328.out (Ne.symm (Nat.ne_of_lt (Nat.lt_of_lt_of_le (Nat.lt_of_lt_of_le ltb2.out ((Nat.le_trans ((Nat.le_trans ((Nat.le_trans ((Nat.le_trans ((Nat.le_trans ((Nat.le_trans (hu7.out.size) hu14.out.size)) hs22.out.size)) hs32.out.size)) hs40.out.size)) hs47.out.size)) hu50.out.size))) lbb51.out)))
   refine wpList_nil ?_
   refine wrapQ_k ?_
   refine late_consT ⟨h332, h333, True.intro⟩ ?_
   refine stw [.int .i64 t315, .int .i64 t316] h330 rfl rfl rfl rfl rfl (by kernel_rfl) rfl rfl ?_
   intro w334 hs335 hb336
   have h337 := hb329.sto hs335.out (Nat.ne_of_lt (Nat.lt_of_lt_of_le ltb2.out lbb5.out))
   have h339 := h332.sto hs335.out (Ne.symm (Nat.ne_of_lt (Nat.lt_of_lt_of_le (Nat.lt_of_lt_of_le ltb5.out ((Nat.le_trans ((Nat.le_trans ((Nat.le_trans ((Nat.le_trans (hu14.out.size) hs22.out.size)) hs32.out.size)) hs40.out.size)) hs47.out.size))) lbb48.out)))
   have h340 := h333.sto hs335.out (Ne.symm (Nat.ne_of_lt (Nat.lt_of_lt_of_le (Nat.lt_of_lt_of_le ltb5.out ((Nat.le_trans ((Nat.le_trans ((Nat.le_trans ((Nat.le_trans ((Nat.le_trans (hu14.out.size) hs22.out.size)) hs32.out.size)) hs40.out.size)) hs47.out.size)) hu50.out.size))) lbb51.out)))
   refine wpList_nil ?_
   refine wrapQ_k ?_
   refine late_nilT ⟨h339, h340, True.intro⟩ ?_
   refine hK286 _ _ ?_
   refine wp_ret ?_
   refine hQf _ _ _ ?_
   have cr0 := h337.cell (o := 0) rfl
   have cr1 := h337.cell (o := 1) rfl
   have cr2 := h337.cell (o := 2) rfl
   have cr3 := hb336.cell (o := 0) rfl
   have cr4 := hb336.cell (o := 1) rfl
   exact bodyPost_ret (v := .tuple #[.int .i64 t291, .int .i64 t41, .agg #[.int .i64 t302, .int .i64 t303, .int .i64 t304], .agg #[.int .i64 t315, .int .i64 t316]]) (by first|rfl|simp [results, Tryz.results25, go_sem, cr0, cr1, cr2, cr3, cr4]<;>rfl) rfl ⟨rfl, ((((((hm69.out.trans hu290.out).grow hs297.out (fun k hk => Nat.le_trans ((Nat.le_trans (hu4.out.size) hu7.out.size)) ((fun k hk => Nat.le_trans lbb9.out (Nat.le_of_eq (Option.some.inj hk))) k hk))).grow hs310.out (fun k hk => Nat.le_trans ((Nat.le_trans (hu4.out.size) hu7.out.size)) ((fun k hk => Nat.le_trans lbb9.out (Nat.le_of_eq (Option.some.inj hk))) k hk))).grow hs322.out (fun k hk => Nat.le_trans ((Nat.le_trans (hu4.out.size) hu7.out.size)) ((fun k hk => Nat.le_trans lbb9.out (Nat.le_of_eq (Option.some.inj hk))) k hk))).sto (Nat.le_trans (Nat.le_refl _) lbb2.out) hs328.out).sto (Nat.le_trans (hu4.out.size) lbb5.out) hs335.out)⟩
 rw [if_pos c68] at H
 subst c68
 obtain ⟨⟨t73, t74, t75⟩,A76,H⟩:=bnd H;try dsimp only at H
 refine wpList_step fun k h=>?_;go_simp;apply h;clear h k
 refine step_call rfl (by go_simp <;> rfl) (spec_l01Next.calls K b9 a0_A a0_c a0 t42 t43 2 t73 t74 t75 w66 h72 (ha0.up hm69.out) (fun k hk hp => Nat.ne_of_lt (Nat.lt_of_lt_of_le ((ha0.up (hu4.out.trans hu7.out)).blk_lt hp k hk) lbb9.out)) A76.out) ?_
 rintro e w77 ⟨rfl, h78, hs⟩
 have hs79 := Aside0.mk hs
 clear hs
 have h80 := h70.grow hs79.out (fun k hk e => (Ne.symm (Nat.ne_of_lt (Nat.lt_of_lt_of_le (Nat.lt_of_lt_of_le ltb2.out (hu7.out.size)) lbb9.out))) ((Option.some.inj hk).trans e))
 have h81 := h71.grow hs79.out (fun k hk e => (Ne.symm (Nat.ne_of_lt (Nat.lt_of_lt_of_le ltb5.out lbb9.out))) ((Option.some.inj hk).trans e))
 have h82 := (h61.up hu67.out).grow hs79.out (fun k hk e => (Nat.ne_of_lt (Nat.lt_of_lt_of_le (Nat.lt_of_lt_of_le ltb9.out ((Nat.le_trans ((Nat.le_trans ((Nat.le_trans (hs22.out.size) hs32.out.size)) hs40.out.size)) hs47.out.size))) lbb48.out)) ((Option.some.inj hk).trans e))
 have h83 := (hb60.up hu67.out).grow hs79.out (fun k hk e => (Nat.ne_of_lt (Nat.lt_of_lt_of_le (Nat.lt_of_lt_of_le ltb9.out ((Nat.le_trans ((Nat.le_trans ((Nat.le_trans ((Nat.le_trans (hs22.out.size) hs32.out.size)) hs40.out.size)) hs47.out.size)) hu50.out.size))) lbb51.out)) ((Option.some.inj hk).trans e))
 refine ⟨_, rfl, ?_⟩
 simp only[nm]
 refine wpList_step fun k h=>?_;go_simp;apply h;clear h k
 refine wpp fun k h=>?_;go_simp;apply h;clear h k
 refine wln (hK63 _ _ ?_)
 have hm85 := Aside0.mk (hm69.out.grow hs79.out (fun k hk => Nat.le_trans ((Nat.le_trans (hu4.out.size) hu7.out.size)) ((fun k hk => Nat.le_trans lbb9.out (Nat.le_of_eq (Option.some.inj hk))) k hk)))
 by_cases c84 : (t73 == 0) = true
 rotate_left
 ·
  rw [if_neg c84] at H; replace c84 := Bool.eq_false_iff.mpr c84
  have c84n : (t73 != 0) = true := by rw [bne, c84]; rfl
  have c84p : ¬ t73 = 0 := fun e => by simp [e] at c84
  obtain ⟨⟨t236, t237, t238⟩,A239,H⟩:=bnd H;try dsimp only at H
  obtain ⟨⟨t247, t248, t249, t250, t251⟩,A252,H⟩:=bnd H;try dsimp only at H
  obtain ⟨⟨t260, t261, t262, t263⟩,A264,H⟩:=bnd H;try dsimp only at H
  simp only [Option.some.injEq, Prod.mk.injEq] at H
  obtain ⟨rfl, rfl, rfl, rfl, rfl, rfl, rfl⟩ := H
  try simp only [c84, c84n, Bool.not_true, Bool.not_false]
  refine wp_cond_false rfl ?_
  refine wp_skip ?_
  refine hK62 _ _ ?_
  refine wp_seq_k fun K231 hK231=>?_
  have hTT_ : ∀ w_, Up (World.drew w77) w_ → (fun w_ => Blk w_ b48 [.int .i64 t24, .int .i64 t25, .int .i64 t26] 27 ∧ Blk w_ b51 [.int .i64 t33, .int .i64 t34] 25 ∧ True) w_ := fun w_ hu_ => ⟨h82.up ((Up.refl _).drew.trans hu_), h83.up ((Up.refl _).drew.trans hu_), True.intro⟩
  refine' wp_region_mix (fun w_ => Blk w_ b48 [.int .i64 t24, .int .i64 t25, .int .i64 t26] 27 ∧ Blk w_ b51 [.int .i64 t33, .int .i64 t34] 25 ∧ True) [0, 1, 3, 4, 5, 6, 8, 9, 10] [2, 7, 11, 12, 13, 14, 15] [Slot.pur _, Slot.pur _, Slot.pur _, Slot.pur _, Slot.pur _, Slot.pur _, Slot.pur _, Slot.pur _, Slot.pur _] (by kernel_rfl) (by kernel_rfl) rfl rfl hTT_ ?main
  case main =>
   simp only [pick, List.drop_succ_cons, List.drop_zero]
   refine wpK_pur rfl hTT_ (fun w1 hT => ?_) ?_
   · clear hT
     go_simp
     first | done | rfl
   simp only[nm]
   refine wpK_pur rfl hTT_ (fun w1 hT => ?_) ?_
   · clear hT
     go_simp
     first | done | rfl
   simp only[nm]
   refine wpK_pur rfl hTT_ (fun w1 hT => ?_) ?_
   · clear hT
     go_simp
     first | done | rfl
   simp only[nm]
   refine wpK_pur rfl hTT_ (fun w1 hT => ?_) ?_
   · clear hT
     go_simp
     first | done | rfl
   simp only[nm]
   refine wpK_pur rfl hTT_ (fun w1 hT => ?_) ?_
   · clear hT
     go_simp
     first | done | rfl
   simp only[nm]
   refine wpK_pur rfl hTT_ (fun w1 hT => ?_) ?_
   · have hB_ := hT.1
     have cl0 := hB_.cell (o := 0) rfl
     have cl1 := hB_.cell (o := 1) rfl
     have cl2 := hB_.cell (o := 2) rfl
     clear hT
     go_simp
     first | done | rfl
   simp only[nm]
   refine wpK_pur rfl hTT_ (fun w1 hT => ?_) ?_
   · clear hT
     go_simp
     first | done | rfl
   simp only[nm]
   refine wpK_pur rfl hTT_ (fun w1 hT => ?_) ?_
   · clear hT
     go_simp
     first | done | rfl
   simp only[nm]
   refine wpK_pur rfl hTT_ (fun w1 hT => ?_) ?_
   · have hB_ := hT.2.1
     have cl0 := hB_.cell (o := 0) rfl
     have cl1 := hB_.cell (o := 1) rfl
     clear hT
     go_simp
     first | done | rfl
   simp only[nm]
   refine wpK_nil ?_
   intro w234 hu
   replace hu := (Up.refl _).drew.trans hu
   have hu235 := Aside0.mk hu
   clear hu
   refine late_consT ⟨(h82.up hu235.out), (h83.up hu235.out), True.intro⟩ ?_
   refine step_call wn (by go_simp <;> rfl) (spec_l01BadField.calls K b9 a0_A a0_c a0 t74 t75 t16 t236 t237 t238 w234 (h78.up hu235.out) (ha0.up (hm85.out.trans hu235.out)) (fun k hk hp => Nat.ne_of_lt (Nat.lt_of_lt_of_le ((ha0.up (hu4.out.trans hu7.out)).blk_lt hp k hk) lbb9.out)) A239.out) ?_
   rintro e w240 ⟨rfl, h241, hs⟩
   have hs242 := Aside0.mk hs
   clear hs
   have h243 := (h80.up hu235.out).grow hs242.out (fun k hk e => (Ne.symm (Nat.ne_of_lt (Nat.lt_of_lt_of_le (Nat.lt_of_lt_of_le ltb2.out (hu7.out.size)) lbb9.out))) ((Option.some.inj hk).trans e))
   have h244 := (h81.up hu235.out).grow hs242.out (fun k hk e => (Ne.symm (Nat.ne_of_lt (Nat.lt_of_lt_of_le ltb5.out lbb9.out))) ((Option.some.inj hk).trans e))
   have h245 := (h82.up hu235.out).grow hs242.out (fun k hk e => (Nat.ne_of_lt (Nat.lt_of_lt_of_le (Nat.lt_of_lt_of_le ltb9.out ((Nat.le_trans ((Nat.le_trans ((Nat.le_trans (hs22.out.size) hs32.out.size)) hs40.out.size)) hs47.out.size))) lbb48.out)) ((Option.some.inj hk).trans e))
   have h246 := (h83.up hu235.out).grow hs242.out (fun k hk e => (Nat.ne_of_lt (Nat.lt_of_lt_of_le (Nat.lt_of_lt_of_le ltb9.out ((Nat.le_trans ((Nat.le_trans ((Nat.le_trans ((Nat.le_trans (hs22.out.size) hs32.out.size)) hs40.out.size)) hs47.out.size)) hu50.out.size))) lbb51.out)) ((Option.some.inj hk).trans e))
   refine ⟨_, rfl, ?_⟩
   simp only[nm]
   refine wpList_nil ?_
   refine wrapQ_k ?_
   refine late_consT ⟨h245, h246, True.intro⟩ ?_
   refine step_call wn (by go_simp <;> rfl) (spec_l06Bad.calls K b9 a0_A a0_c a0 t237 t238 t16 t24 t25 t26 t247 t248 t249 t250 t251 w240 h241 (ha0.up ((hm85.out.trans hu235.out).grow hs242.out (fun k hk => Nat.le_trans ((Nat.le_trans (hu4.out.size) hu7.out.size)) ((fun k hk => Nat.le_trans lbb9.out (Nat.le_of_eq (Option.some.inj hk))) k hk)))) (fun k hk hp => Nat.ne_of_lt (Nat.lt_of_lt_of_le ((ha0.up (hu4.out.trans hu7.out)).blk_lt hp k hk) lbb9.out)) A252.out) ?_
   rintro e w253 ⟨rfl, h254, hs⟩
   have hs255 := Aside0.mk hs
   clear hs
   have h256 := h243.grow hs255.out (fun k hk e => (Ne.symm (Nat.ne_of_lt (Nat.lt_of_lt_of_le (Nat.lt_of_lt_of_le ltb2.out (hu7.out.size)) lbb9.out))) ((Option.some.inj hk).trans e))
   have h257 := h244.grow hs255.out (fun k hk e => (Ne.symm (Nat.ne_of_lt (Nat.lt_of_lt_of_le ltb5.out lbb9.out))) ((Option.some.inj hk).trans e))
   have h258 := h245.grow hs255.out (fun k hk e => (Nat.ne_of_lt (Nat.lt_of_lt_of_le (Nat.lt_of_lt_of_le ltb9.out ((Nat.le_trans ((Nat.le_trans ((Nat.le_trans (hs22.out.size) hs32.out.size)) hs40.out.size)) hs47.out.size))) lbb48.out)) ((Option.some.inj hk).trans e))
   have h259 := h246.grow hs255.out (fun k hk e => (Nat.ne_of_lt (Nat.lt_of_lt_of_le (Nat.lt_of_lt_of_le ltb9.out ((Nat.le_trans ((Nat.le_trans ((Nat.le_trans ((Nat.le_trans (hs22.out.size) hs32.out.size)) hs40.out.size)) hs47.out.size)) hu50.out.size))) lbb51.out)) ((Option.some.inj hk).trans e))
   refine ⟨_, rfl, ?_⟩
   simp only[nm]
   refine wpList_nil ?_
   refine wrapQ_k ?_
   refine late_consT ⟨h258, h259, True.intro⟩ ?_
   refine step_call wn (by go_simp <;> rfl) (spec_l01BadPoint.calls K b9 a0_A a0_c a0 t250 t251 t16 t33 t34 t260 t261 t262 t263 w253 h254 (ha0.up (((hm85.out.trans hu235.out).grow hs242.out (fun k hk => Nat.le_trans ((Nat.le_trans (hu4.out.size) hu7.out.size)) ((fun k hk => Nat.le_trans lbb9.out (Nat.le_of_eq (Option.some.inj hk))) k hk))).grow hs255.out (fun k hk => Nat.le_trans ((Nat.le_trans (hu4.out.size) hu7.out.size)) ((fun k hk => Nat.le_trans lbb9.out (Nat.le_of_eq (Option.some.inj hk))) k hk)))) (fun k hk hp => Nat.ne_of_lt (Nat.lt_of_lt_of_le ((ha0.up (hu4.out.trans hu7.out)).blk_lt hp k hk) lbb9.out)) A264.out) ?_
   rintro e w265 ⟨rfl, h266, hs⟩
   have hs267 := Aside0.mk hs
   clear hs
   have h268 := h256.grow hs267.out (fun k hk e => (Ne.symm (Nat.ne_of_lt (Nat.lt_of_lt_of_le (Nat.lt_of_lt_of_le ltb2.out (hu7.out.size)) lbb9.out))) ((Option.some.inj hk).trans e))
   have h269 := h257.grow hs267.out (fun k hk e => (Ne.symm (Nat.ne_of_lt (Nat.lt_of_lt_of_le ltb5.out lbb9.out))) ((Option.some.inj hk).trans e))
   have h270 := h258.grow hs267.out (fun k hk e => (Nat.ne_of_lt (Nat.lt_of_lt_of_le (Nat.lt_of_lt_of_le ltb9.out ((Nat.le_trans ((Nat.le_trans ((Nat.le_trans (hs22.out.size) hs32.out.size)) hs40.out.size)) hs47.out.size))) lbb48.out)) ((Option.some.inj hk).trans e))
   have h271 := h259.grow hs267.out (fun k hk e => (Nat.ne_of_lt (Nat.lt_of_lt_of_le (Nat.lt_of_lt_of_le ltb9.out ((Nat.le_trans ((Nat.le_trans ((Nat.le_trans ((Nat.le_trans (hs22.out.size) hs32.out.size)) hs40.out.size)) hs47.out.size)) hu50.out.size))) lbb51.out)) ((Option.some.inj hk).trans e))
   refine ⟨_, rfl, ?_⟩
   simp only[nm]
   refine wpList_nil ?_
   refine wrapQ_k ?_
   refine late_consT ⟨h270, h271, True.intro⟩ ?_
   refine wpp fun k h=>?_;go_simp;apply h;clear h k
   refine wpList_nil ?_
   refine wrapQ_k ?_
   refine late_consT ⟨h270, h271, True.intro⟩ ?_
   refine wpp fun k h=>?_;go_simp;apply h;clear h k
   refine wpList_nil ?_
   refine wrapQ_k ?_
   refine late_consT ⟨h270, h271, True.intro⟩ ?_
   refine stw [.int .i64 t247, .int .i64 t248, .int .i64 t249] h268 rfl rfl rfl rfl rfl (by kernel_rfl) rfl rfl ?_
   intro w272 hs273 hb274
   have h275 := h269.sto hs273.out (Ne.symm (Nat.ne_of_lt (Nat.lt_of_lt_of_le ltb2.out lbb5.out)))
   have h277 := h270.sto hs273.out (Ne.symm (Nat.ne_of_lt (Nat.lt_of_lt_of_le (Nat.lt_of_lt_of_le ltb2.out ((Nat.le_trans ((Nat.le_trans ((Nat.le_trans ((Nat.le_trans ((Nat.le_trans (hu7.out.size) hu14.out.size)) hs22.out.size)) hs32.out.size)) hs40.out.size)) hs47.out.size))) lbb48.out)))
   have h278 := h271.sto hs273.out (Ne.symm (Nat.ne_of_lt (Nat.lt_of_lt_of_le (Nat.lt_of_lt_of_le ltb2.out ((Nat.le_trans ((Nat.le_trans ((Nat.le_trans ((Nat.le_trans ((Nat.le_trans ((Nat.le_trans (hu7.out.size) hu14.out.size)) hs22.out.size)) hs32.out.size)) hs40.out.size)) hs47.out.size)) hu50.out.size))) lbb51.out)))
   refine wpList_nil ?_
   refine wrapQ_k ?_
   refine late_consT ⟨h277, h278, True.intro⟩ ?_
   refine stw [.int .i64 t260, .int .i64 t261] h275 rfl rfl rfl rfl rfl (by kernel_rfl) rfl rfl ?_
   intro w279 hs280 hb281
   have h282 := hb274.sto hs280.out (Nat.ne_of_lt (Nat.lt_of_lt_of_le ltb2.out lbb5.out))
   have h284 := h277.sto hs280.out (Ne.symm (Nat.ne_of_lt (Nat.lt_of_lt_of_le (Nat.lt_of_lt_of_le ltb5.out ((Nat.le_trans ((Nat.le_trans ((Nat.le_trans ((Nat.le_trans (hu14.out.size) hs22.out.size)) hs32.out.size)) hs40.out.size)) hs47.out.size))) lbb48.out)))
   have h285 := h278.sto hs280.out (Ne.symm (Nat.ne_of_lt (Nat.lt_of_lt_of_le (Nat.lt_of_lt_of_le ltb5.out ((Nat.le_trans ((Nat.le_trans ((Nat.le_trans ((Nat.le_trans ((Nat.le_trans (hu14.out.size) hs22.out.size)) hs32.out.size)) hs40.out.size)) hs47.out.size)) hu50.out.size))) lbb51.out)))
   refine wpList_nil ?_
   refine wrapQ_k ?_
   refine late_nilT ⟨h284, h285, True.intro⟩ ?_
   refine hK231 _ _ ?_
   refine wp_ret ?_
   refine hQf _ _ _ ?_
   have cr0 := h282.cell (o := 0) rfl
   have cr1 := h282.cell (o := 1) rfl
   have cr2 := h282.cell (o := 2) rfl
   have cr3 := hb281.cell (o := 0) rfl
   have cr4 := hb281.cell (o := 1) rfl
   exact bodyPost_ret (v := .tuple #[.int .i64 t236, .int .i64 t41, .agg #[.int .i64 t247, .int .i64 t248, .int .i64 t249], .agg #[.int .i64 t260, .int .i64 t261]]) (by first|rfl|simp [results, Tryz.results25, go_sem, cr0, cr1, cr2, cr3, cr4]<;>rfl) rfl ⟨rfl, ((((((hm85.out.trans hu235.out).grow hs242.out (fun k hk => Nat.le_trans ((Nat.le_trans (hu4.out.size) hu7.out.size)) ((fun k hk => Nat.le_trans lbb9.out (Nat.le_of_eq (Option.some.inj hk))) k hk))).grow hs255.out (fun k hk => Nat.le_trans ((Nat.le_trans (hu4.out.size) hu7.out.size)) ((fun k hk => Nat.le_trans lbb9.out (Nat.le_of_eq (Option.some.inj hk))) k hk))).grow hs267.out (fun k hk => Nat.le_trans ((Nat.le_trans (hu4.out.size) hu7.out.size)) ((fun k hk => Nat.le_trans lbb9.out (Nat.le_of_eq (Option.some.inj hk))) k hk))).sto (Nat.le_trans (Nat.le_refl _) lbb2.out) hs273.out).sto (Nat.le_trans (hu4.out.size) lbb5.out) hs280.out)⟩
 rw [if_pos c84] at H
 have c84n : (t73 != 0) = false := by rw [bne, c84]; rfl
 obtain ⟨t87,A90,H⟩:=bnd H;try dsimp only at H
 try simp only [c84, c84n, Bool.not_true, Bool.not_false]
 refine wp_cond_true rfl ?_
 refine wsr fun _ hK86=>?_
 iterate 3 (refine wpp fun k h=>?_;go_simp;apply h;clear h k)
 have cl0 := h82.cell (o := 0) rfl
 have cl1 := h82.cell (o := 1) rfl
 refine wpp fun k h=>?_;go_simp;apply h;clear h k
 clear cl0 cl1
 refine wpp fun k h=>?_;go_simp;apply h;clear h k
 have cl0 := h82.cell (o := 2) rfl
 refine wpp fun k h=>?_;go_simp;apply h;clear h k
 clear cl0
 refine step_call wn (by go_simp <;> rfl) (spec_l02At.calls K t16 t41 t24 t25 t26 t87 w77  A90.out) ?_
 rintro e w91 ⟨P88, q89, rfl, ht87, hu⟩
 have hu92 := Aside0.mk hu
 clear hu
 refine ⟨_, rfl, ?_⟩
 simp only[nm]
 refine wpp fun k h=>?_;go_simp;apply h;clear h k
 refine wln (hK86 _ _ ?_)
 refine wsr fun _ hK93=>?_
 iterate 3 (refine wpp fun k h=>?_;go_simp;apply h;clear h k)
 refine wln (hK93 _ _ ?_)
 by_cases c94 : (decide (0 < (t87.length : Int))) = true
 rotate_left
 ·
  rw [if_neg c94] at H; replace c94 := Bool.eq_false_iff.mpr c94
  have c94z : decide (0 < t87.length) = false := by simpa using c94
  obtain ⟨⟨t181, t182, t183⟩,A184,H⟩:=bnd H;try dsimp only at H
  obtain ⟨⟨t192, t193, t194, t195, t196⟩,A197,H⟩:=bnd H;try dsimp only at H
  obtain ⟨⟨t205, t206, t207, t208⟩,A209,H⟩:=bnd H;try dsimp only at H
  simp only [Option.some.injEq, Prod.mk.injEq] at H
  obtain ⟨rfl, rfl, rfl, rfl, rfl, rfl, rfl⟩ := H
  try simp only [c94, c94z, Bool.not_true, Bool.not_false]
  refine wp_cond_false rfl ?_
  refine wp_skip ?_
  refine hK62 _ _ ?_
  refine wp_seq_k fun K176 hK176=>?_
  have hTT_ : ∀ w_, Up (World.drew w91) w_ → (fun w_ => Blk w_ b48 [.int .i64 t24, .int .i64 t25, .int .i64 t26] 27 ∧ Blk w_ b51 [.int .i64 t33, .int .i64 t34] 25 ∧ True) w_ := fun w_ hu_ => ⟨(h82.up hu92.out).up ((Up.refl _).drew.trans hu_), (h83.up hu92.out).up ((Up.refl _).drew.trans hu_), True.intro⟩
  refine' wp_region_mix (fun w_ => Blk w_ b48 [.int .i64 t24, .int .i64 t25, .int .i64 t26] 27 ∧ Blk w_ b51 [.int .i64 t33, .int .i64 t34] 25 ∧ True) [0, 1, 3, 4, 5, 6, 8, 9, 10] [2, 7, 11, 12, 13, 14, 15] [Slot.pur _, Slot.pur _, Slot.pur _, Slot.pur _, Slot.pur _, Slot.pur _, Slot.pur _, Slot.pur _, Slot.pur _] (by kernel_rfl) (by kernel_rfl) rfl rfl hTT_ ?main
  case main =>
   simp only [pick, List.drop_succ_cons, List.drop_zero]
   refine wpK_pur rfl hTT_ (fun w1 hT => ?_) ?_
   · clear hT
     go_simp
     first | done | rfl
   simp only[nm]
   refine wpK_pur rfl hTT_ (fun w1 hT => ?_) ?_
   · clear hT
     go_simp
     first | done | rfl
   simp only[nm]
   refine wpK_pur rfl hTT_ (fun w1 hT => ?_) ?_
   · clear hT
     go_simp
     first | done | rfl
   simp only[nm]
   refine wpK_pur rfl hTT_ (fun w1 hT => ?_) ?_
   · clear hT
     go_simp
     first | done | rfl
   simp only[nm]
   refine wpK_pur rfl hTT_ (fun w1 hT => ?_) ?_
   · clear hT
     go_simp
     first | done | rfl
   simp only[nm]
   refine wpK_pur rfl hTT_ (fun w1 hT => ?_) ?_
   · have hB_ := hT.1
     have cl0 := hB_.cell (o := 0) rfl
     have cl1 := hB_.cell (o := 1) rfl
     have cl2 := hB_.cell (o := 2) rfl
     clear hT
     go_simp
     first | done | rfl
   simp only[nm]
   refine wpK_pur rfl hTT_ (fun w1 hT => ?_) ?_
   · clear hT
     go_simp
     first | done | rfl
   simp only[nm]
   refine wpK_pur rfl hTT_ (fun w1 hT => ?_) ?_
   · clear hT
     go_simp
     first | done | rfl
   simp only[nm]
   refine wpK_pur rfl hTT_ (fun w1 hT => ?_) ?_
   · have hB_ := hT.2.1
     have cl0 := hB_.cell (o := 0) rfl
     have cl1 := hB_.cell (o := 1) rfl
     clear hT
     go_simp
     first | done | rfl
   simp only[nm]
   refine wpK_nil ?_
   intro w179 hu
   replace hu := (Up.refl _).drew.trans hu
   have hu180 := Aside0.mk hu
   clear hu
   refine late_consT ⟨(h82.up (hu92.out.trans hu180.out)), (h83.up (hu92.out.trans hu180.out)), True.intro⟩ ?_
   refine step_call wn (by go_simp <;> rfl) (spec_l01BadField.calls K b9 a0_A a0_c a0 t74 t75 t16 t181 t182 t183 w179 (h78.up (hu92.out.trans hu180.out)) (ha0.up ((hm85.out.trans hu92.out).trans hu180.out)) (fun k hk hp => Nat.ne_of_lt (Nat.lt_of_lt_of_le ((ha0.up (hu4.out.trans hu7.out)).blk_lt hp k hk) lbb9.out)) A184.out) ?_
   rintro e w185 ⟨rfl, h186, hs⟩
   have hs187 := Aside0.mk hs
   clear hs
   have h188 := (h80.up (hu92.out.trans hu180.out)).grow hs187.out (fun k hk e => (Ne.symm (Nat.ne_of_lt (Nat.lt_of_lt_of_le (Nat.lt_of_lt_of_le ltb2.out (hu7.out.size)) lbb9.out))) ((Option.some.inj hk).trans e))
   have h189 := (h81.up (hu92.out.trans hu180.out)).grow hs187.out (fun k hk e => (Ne.symm (Nat.ne_of_lt (Nat.lt_of_lt_of_le ltb5.out lbb9.out))) ((Option.some.inj hk).trans e))
   have h190 := (h82.up (hu92.out.trans hu180.out)).grow hs187.out (fun k hk e => (Nat.ne_of_lt (Nat.lt_of_lt_of_le (Nat.lt_of_lt_of_le ltb9.out ((Nat.le_trans ((Nat.le_trans ((Nat.le_trans (hs22.out.size) hs32.out.size)) hs40.out.size)) hs47.out.size))) lbb48.out)) ((Option.some.inj hk).trans e))
   have h191 := (h83.up (hu92.out.trans hu180.out)).grow hs187.out (fun k hk e => (Nat.ne_of_lt (Nat.lt_of_lt_of_le (Nat.lt_of_lt_of_le ltb9.out ((Nat.le_trans ((Nat.le_trans ((Nat.le_trans ((Nat.le_trans (hs22.out.size) hs32.out.size)) hs40.out.size)) hs47.out.size)) hu50.out.size))) lbb51.out)) ((Option.some.inj hk).trans e))
   refine ⟨_, rfl, ?_⟩
   simp only[nm]
   refine wpList_nil ?_
   refine wrapQ_k ?_
   refine late_consT ⟨h190, h191, True.intro⟩ ?_
   refine step_call wn (by go_simp <;> rfl) (spec_l06Bad.calls K b9 a0_A a0_c a0 t182 t183 t16 t24 t25 t26 t192 t193 t194 t195 t196 w185 h186 (ha0.up (((hm85.out.trans hu92.out).trans hu180.out).grow hs187.out (fun k hk => Nat.le_trans ((Nat.le_trans (hu4.out.size) hu7.out.size)) ((fun k hk => Nat.le_trans lbb9.out (Nat.le_of_eq (Option.some.inj hk))) k hk)))) (fun k hk hp => Nat.ne_of_lt (Nat.lt_of_lt_of_le ((ha0.up (hu4.out.trans hu7.out)).blk_lt hp k hk) lbb9.out)) A197.out) ?_
   rintro e w198 ⟨rfl, h199, hs⟩
   have hs200 := Aside0.mk hs
   clear hs
   have h201 := h188.grow hs200.out (fun k hk e => (Ne.symm (Nat.ne_of_lt (Nat.lt_of_lt_of_le (Nat.lt_of_lt_of_le ltb2.out (hu7.out.size)) lbb9.out))) ((Option.some.inj hk).trans e))
   have h202 := h189.grow hs200.out (fun k hk e => (Ne.symm (Nat.ne_of_lt (Nat.lt_of_lt_of_le ltb5.out lbb9.out))) ((Option.some.inj hk).trans e))
   have h203 := h190.grow hs200.out (fun k hk e => (Nat.ne_of_lt (Nat.lt_of_lt_of_le (Nat.lt_of_lt_of_le ltb9.out ((Nat.le_trans ((Nat.le_trans ((Nat.le_trans (hs22.out.size) hs32.out.size)) hs40.out.size)) hs47.out.size))) lbb48.out)) ((Option.some.inj hk).trans e))
   have h204 := h191.grow hs200.out (fun k hk e => (Nat.ne_of_lt (Nat.lt_of_lt_of_le (Nat.lt_of_lt_of_le ltb9.out ((Nat.le_trans ((Nat.le_trans ((Nat.le_trans ((Nat.le_trans (hs22.out.size) hs32.out.size)) hs40.out.size)) hs47.out.size)) hu50.out.size))) lbb51.out)) ((Option.some.inj hk).trans e))
   refine ⟨_, rfl, ?_⟩
   simp only[nm]
   refine wpList_nil ?_
   refine wrapQ_k ?_
   refine late_consT ⟨h203, h204, True.intro⟩ ?_
   refine step_call wn (by go_simp <;> rfl) (spec_l01BadPoint.calls K b9 a0_A a0_c a0 t195 t196 t16 t33 t34 t205 t206 t207 t208 w198 h199 (ha0.up ((((hm85.out.trans hu92.out).trans hu180.out).grow hs187.out (fun k hk => Nat.le_trans ((Nat.le_trans (hu4.out.size) hu7.out.size)) ((fun k hk => Nat.le_trans lbb9.out (Nat.le_of_eq (Option.some.inj hk))) k hk))).grow hs200.out (fun k hk => Nat.le_trans ((Nat.le_trans (hu4.out.size) hu7.out.size)) ((fun k hk => Nat.le_trans lbb9.out (Nat.le_of_eq (Option.some.inj hk))) k hk)))) (fun k hk hp => Nat.ne_of_lt (Nat.lt_of_lt_of_le ((ha0.up (hu4.out.trans hu7.out)).blk_lt hp k hk) lbb9.out)) A209.out) ?_
   rintro e w210 ⟨rfl, h211, hs⟩
   have hs212 := Aside0.mk hs
   clear hs
   have h213 := h201.grow hs212.out (fun k hk e => (Ne.symm (Nat.ne_of_lt (Nat.lt_of_lt_of_le (Nat.lt_of_lt_of_le ltb2.out (hu7.out.size)) lbb9.out))) ((Option.some.inj hk).trans e))
   have h214 := h202.grow hs212.out (fun k hk e => (Ne.symm (Nat.ne_of_lt (Nat.lt_of_lt_of_le ltb5.out lbb9.out))) ((Option.some.inj hk).trans e))
   have h215 := h203.grow hs212.out (fun k hk e => (Nat.ne_of_lt (Nat.lt_of_lt_of_le (Nat.lt_of_lt_of_le ltb9.out ((Nat.le_trans ((Nat.le_trans ((Nat.le_trans (hs22.out.size) hs32.out.size)) hs40.out.size)) hs47.out.size))) lbb48.out)) ((Option.some.inj hk).trans e))
   have h216 := h204.grow hs212.out (fun k hk e => (Nat.ne_of_lt (Nat.lt_of_lt_of_le (Nat.lt_of_lt_of_le ltb9.out ((Nat.le_trans ((Nat.le_trans ((Nat.le_trans ((Nat.le_trans (hs22.out.size) hs32.out.size)) hs40.out.size)) hs47.out.size)) hu50.out.size))) lbb51.out)) ((Option.some.inj hk).trans e))
   refine ⟨_, rfl, ?_⟩
   simp only[nm]
   refine wpList_nil ?_
   refine wrapQ_k ?_
   refine late_consT ⟨h215, h216, True.intro⟩ ?_
   refine wpp fun k h=>?_;go_simp;apply h;clear h k
   refine wpList_nil ?_
   refine wrapQ_k ?_
   refine late_consT ⟨h215, h216, True.intro⟩ ?_
   refine wpp fun k h=>?_;go_simp;apply h;clear h k
   refine wpList_nil ?_
   refine wrapQ_k ?_
   refine late_consT ⟨h215, h216, True.intro⟩ ?_
   refine stw [.int .i64 t192, .int .i64 t193, .int .i64 t194] h213 rfl rfl rfl rfl rfl (by kernel_rfl) rfl rfl ?_
   intro w217 hs218 hb219
   have h220 := h214.sto hs218.out (Ne.symm (Nat.ne_of_lt (Nat.lt_of_lt_of_le ltb2.out lbb5.out)))
   have h222 := h215.sto hs218.out (Ne.symm (Nat.ne_of_lt (Nat.lt_of_lt_of_le (Nat.lt_of_lt_of_le ltb2.out ((Nat.le_trans ((Nat.le_trans ((Nat.le_trans ((Nat.le_trans ((Nat.le_trans (hu7.out.size) hu14.out.size)) hs22.out.size)) hs32.out.size)) hs40.out.size)) hs47.out.size))) lbb48.out)))
   have h223 := h216.sto hs218.out (Ne.symm (Nat.ne_of_lt (Nat.lt_of_lt_of_le (Nat.lt_of_lt_of_le ltb2.out ((Nat.le_trans ((Nat.le_trans ((Nat.le_trans ((Nat.le_trans ((Nat.le_trans ((Nat.le_trans (hu7.out.size) hu14.out.size)) hs22.out.size)) hs32.out.size)) hs40.out.size)) hs47.out.size)) hu50.out.size))) lbb51.out)))
   refine wpList_nil ?_
   refine wrapQ_k ?_
   refine late_consT ⟨h222, h223, True.intro⟩ ?_
   refine stw [.int .i64 t205, .int .i64 t206] h220 rfl rfl rfl rfl rfl (by kernel_rfl) rfl rfl ?_
   intro w224 hs225 hb226
   have h227 := hb219.sto hs225.out (Nat.ne_of_lt (Nat.lt_of_lt_of_le ltb2.out lbb5.out))
   have h229 := h222.sto hs225.out (Ne.symm (Nat.ne_of_lt (Nat.lt_of_lt_of_le (Nat.lt_of_lt_of_le ltb5.out ((Nat.le_trans ((Nat.le_trans ((Nat.le_trans ((Nat.le_trans (hu14.out.size) hs22.out.size)) hs32.out.size)) hs40.out.size)) hs47.out.size))) lbb48.out)))
   have h230 := h223.sto hs225.out (Ne.symm (Nat.ne_of_lt (Nat.lt_of_lt_of_le (Nat.lt_of_lt_of_le ltb5.out ((Nat.le_trans ((Nat.le_trans ((Nat.le_trans ((Nat.le_trans ((Nat.le_trans (hu14.out.size) hs22.out.size)) hs32.out.size)) hs40.out.size)) hs47.out.size)) hu50.out.size))) lbb51.out)))
   refine wpList_nil ?_
   refine wrapQ_k ?_
   refine late_nilT ⟨h229, h230, True.intro⟩ ?_
   refine hK176 _ _ ?_
   refine wp_ret ?_
   refine hQf _ _ _ ?_
   have cr0 := h227.cell (o := 0) rfl
   have cr1 := h227.cell (o := 1) rfl
   have cr2 := h227.cell (o := 2) rfl
   have cr3 := hb226.cell (o := 0) rfl
   have cr4 := hb226.cell (o := 1) rfl
   exact bodyPost_ret (v := .tuple #[.int .i64 t181, .int .i64 t41, .agg #[.int .i64 t192, .int .i64 t193, .int .i64 t194], .agg #[.int .i64 t205, .int .i64 t206]]) (by first|rfl|simp [results, Tryz.results25, go_sem, cr0, cr1, cr2, cr3, cr4]<;>rfl) rfl ⟨rfl, (((((((hm85.out.trans hu92.out).trans hu180.out).grow hs187.out (fun k hk => Nat.le_trans ((Nat.le_trans (hu4.out.size) hu7.out.size)) ((fun k hk => Nat.le_trans lbb9.out (Nat.le_of_eq (Option.some.inj hk))) k hk))).grow hs200.out (fun k hk => Nat.le_trans ((Nat.le_trans (hu4.out.size) hu7.out.size)) ((fun k hk => Nat.le_trans lbb9.out (Nat.le_of_eq (Option.some.inj hk))) k hk))).grow hs212.out (fun k hk => Nat.le_trans ((Nat.le_trans (hu4.out.size) hu7.out.size)) ((fun k hk => Nat.le_trans lbb9.out (Nat.le_of_eq (Option.some.inj hk))) k hk))).sto (Nat.le_trans (Nat.le_refl _) lbb2.out) hs218.out).sto (Nat.le_trans (hu4.out.size) lbb5.out) hs225.out)⟩
 rw [if_pos c94] at H
 have c94z : decide (0 < t87.length) = true := by simpa using c94
 obtain ⟨⟨t95, t96, t97⟩,A98,H⟩:=bnd H;try dsimp only at H
 obtain ⟨⟨t107, t108⟩,A109,H⟩:=bnd H;try dsimp only at H
 obtain ⟨⟨t126, t127, t128⟩,A129,H⟩:=bnd H;try dsimp only at H
 obtain ⟨⟨t137, t138, t139, t140, t141⟩,A142,H⟩:=bnd H;try dsimp only at H
 obtain ⟨⟨t150, t151, t152, t153⟩,A154,H⟩:=bnd H;try dsimp only at H
 simp only [Option.some.injEq, Prod.mk.injEq] at H
 obtain ⟨rfl, rfl, rfl, rfl, rfl, rfl, rfl⟩ := H
 try simp only [c94, c94z, Bool.not_true, Bool.not_false]
 refine wp_cond_true rfl ?_
 refine wp_region_lit ?_
 iterate 4 (refine wpp fun k h=>?_;go_simp;apply h;clear h k)
 refine step_call wn (by go_simp <;> rfl) (spec_l01Next.calls K b9 a0_A a0_c a0 t74 t75 (t87.length : Int) t95 t96 t97 w91 (h78.up hu92.out) (ha0.up (hm85.out.trans hu92.out)) (fun k hk hp => Nat.ne_of_lt (Nat.lt_of_lt_of_le ((ha0.up (hu4.out.trans hu7.out)).blk_lt hp k hk) lbb9.out)) A98.out) ?_
 rintro e w99 ⟨rfl, h100, hs⟩
 have hs101 := Aside0.mk hs
 clear hs
 have h102 := (h80.up hu92.out).grow hs101.out (fun k hk e => (Ne.symm (Nat.ne_of_lt (Nat.lt_of_lt_of_le (Nat.lt_of_lt_of_le ltb2.out (hu7.out.size)) lbb9.out))) ((Option.some.inj hk).trans e))
 have h103 := (h81.up hu92.out).grow hs101.out (fun k hk e => (Ne.symm (Nat.ne_of_lt (Nat.lt_of_lt_of_le ltb5.out lbb9.out))) ((Option.some.inj hk).trans e))
 have h104 := (h82.up hu92.out).grow hs101.out (fun k hk e => (Nat.ne_of_lt (Nat.lt_of_lt_of_le (Nat.lt_of_lt_of_le ltb9.out ((Nat.le_trans ((Nat.le_trans ((Nat.le_trans (hs22.out.size) hs32.out.size)) hs40.out.size)) hs47.out.size))) lbb48.out)) ((Option.some.inj hk).trans e))
 have h105 := (h83.up hu92.out).grow hs101.out (fun k hk e => (Nat.ne_of_lt (Nat.lt_of_lt_of_le (Nat.lt_of_lt_of_le ltb9.out ((Nat.le_trans ((Nat.le_trans ((Nat.le_trans ((Nat.le_trans (hs22.out.size) hs32.out.size)) hs40.out.size)) hs47.out.size)) hu50.out.size))) lbb51.out)) ((Option.some.inj hk).trans e))
 have h106 := ht87.grow hs101.out (fun k l hk hl e => (fun k hk => Nat.ne_of_lt (Nat.lt_of_lt_of_le (Nat.lt_of_lt_of_le ltb9.out ((Nat.le_trans ((Nat.le_trans ((Nat.le_trans ((Nat.le_trans ((Nat.le_trans ((Nat.le_trans ((Nat.le_trans ((Nat.le_trans ((Nat.le_trans (hs22.out.size) hs32.out.size)) hs40.out.size)) hs47.out.size)) hu50.out.size)) hu53.out.size)) (Nat.le_of_eq hs55.out.size.symm))) (Nat.le_of_eq hs59.out.size.symm))) hu67.out.size)) hs79.out.size))) ((fun k hk => Nat.le_trans (Nat.le_refl _) (ht87.lt k hk).1) k hk))) l hl ((Option.some.inj hk).trans e))
 refine ⟨_, rfl, ?_⟩
 simp only[nm]
 refine step_index e2 (T := 25) wn rfl (by kernel_rfl) (by kernel_rfl) rfl rfl rfl h106.rd A109.out ?_
 intro ad110 hat he
 have he111 := Aside0.mk he
 have hat112 := Aside0.mk hat
 clear he hat
 simp only[nm]
 have cl0 := he111.out 0 _ rfl
 rw [addr_add0] at cl0
 have cl1 : World.cell? _ ⟨ad110.block, ad110.off + 1, none⟩ = some _ := he111.out 1 _ rfl
 refine wpp fun k h=>?_;go_simp;apply h;clear h k
 clear cl0 cl1
 refine stw [.int .i64 t107, .int .i64 t108] h105 rfl rfl rfl rfl rfl (by kernel_rfl) rfl rfl ?_
 intro w113 hs114 hb115
 have h116 := h102.sto hs114.out (Nat.ne_of_lt (Nat.lt_of_lt_of_le (Nat.lt_of_lt_of_le ltb2.out ((Nat.le_trans ((Nat.le_trans ((Nat.le_trans ((Nat.le_trans ((Nat.le_trans ((Nat.le_trans (hu7.out.size) hu14.out.size)) hs22.out.size)) hs32.out.size)) hs40.out.size)) hs47.out.size)) hu50.out.size))) lbb51.out))
 have h117 := h103.sto hs114.out (Nat.ne_of_lt (Nat.lt_of_lt_of_le (Nat.lt_of_lt_of_le ltb5.out ((Nat.le_trans ((Nat.le_trans ((Nat.le_trans ((Nat.le_trans ((Nat.le_trans (hu14.out.size) hs22.out.size)) hs32.out.size)) hs40.out.size)) hs47.out.size)) hu50.out.size))) lbb51.out))
 have h118 := h100.sto hs114.out (Nat.ne_of_lt (Nat.lt_of_lt_of_le (Nat.lt_of_lt_of_le ltb9.out ((Nat.le_trans ((Nat.le_trans ((Nat.le_trans ((Nat.le_trans (hs22.out.size) hs32.out.size)) hs40.out.size)) hs47.out.size)) hu50.out.size))) lbb51.out))
 have h119 := h104.sto hs114.out (Nat.ne_of_lt (Nat.lt_of_lt_of_le ltb48.out lbb51.out))
 refine wln (hK62 _ _ ?_)
 refine wp_seq_k fun K121 hK121=>?_
 have hTT_ : ∀ w_, Up (World.drew w113) w_ → (fun w_ => Blk w_ b48 [.int .i64 t24, .int .i64 t25, .int .i64 t26] 27 ∧ Blk w_ b51 [.int .i64 t107, .int .i64 t108] 25 ∧ True) w_ := fun w_ hu_ => ⟨h119.up ((Up.refl _).drew.trans hu_), hb115.up ((Up.refl _).drew.trans hu_), True.intro⟩
 refine' wp_region_mix (fun w_ => Blk w_ b48 [.int .i64 t24, .int .i64 t25, .int .i64 t26] 27 ∧ Blk w_ b51 [.int .i64 t107, .int .i64 t108] 25 ∧ True) [0, 1, 3, 4, 5, 6, 8, 9, 10] [2, 7, 11, 12, 13, 14, 15] [Slot.pur _, Slot.pur _, Slot.pur _, Slot.pur _, Slot.pur _, Slot.pur _, Slot.pur _, Slot.pur _, Slot.pur _] (by kernel_rfl) (by kernel_rfl) rfl rfl hTT_ ?main
 case main =>
  simp only [pick, List.drop_succ_cons, List.drop_zero]
  refine wpK_pur rfl hTT_ (fun w1 hT => ?_) ?_
  · clear hT
    go_simp
    first | done | rfl
  simp only[nm]
  refine wpK_pur rfl hTT_ (fun w1 hT => ?_) ?_
  · clear hT
    go_simp
    first | done | rfl
  simp only[nm]
  refine wpK_pur rfl hTT_ (fun w1 hT => ?_) ?_
  · clear hT
    go_simp
    first | done | rfl
  simp only[nm]
  refine wpK_pur rfl hTT_ (fun w1 hT => ?_) ?_
  · clear hT
    go_simp
    first | done | rfl
  simp only[nm]
  refine wpK_pur rfl hTT_ (fun w1 hT => ?_) ?_
  · clear hT
    go_simp
    first | done | rfl
  simp only[nm]
  refine wpK_pur rfl hTT_ (fun w1 hT => ?_) ?_
  · have hB_ := hT.1
    have cl0 := hB_.cell (o := 0) rfl
    have cl1 := hB_.cell (o := 1) rfl
    have cl2 := hB_.cell (o := 2) rfl
    clear hT
    go_simp
    first | done | rfl
  simp only[nm]
  refine wpK_pur rfl hTT_ (fun w1 hT => ?_) ?_
  · clear hT
    go_simp
    first | done | rfl
  simp only[nm]
  refine wpK_pur rfl hTT_ (fun w1 hT => ?_) ?_
  · clear hT
    go_simp
    first | done | rfl
  simp only[nm]
  refine wpK_pur rfl hTT_ (fun w1 hT => ?_) ?_
  · have hB_ := hT.2.1
    have cl0 := hB_.cell (o := 0) rfl
    have cl1 := hB_.cell (o := 1) rfl
    clear hT
    go_simp
    first | done | rfl
  simp only[nm]
  refine wpK_nil ?_
  intro w124 hu
  replace hu := (Up.refl _).drew.trans hu
  have hu125 := Aside0.mk hu
  clear hu
  refine late_consT ⟨(h119.up hu125.out), (hb115.up hu125.out), True.intro⟩ ?_
  refine step_call wn (by go_simp <;> rfl) (spec_l01BadField.calls K b9 a0_A a0_c a0 t96 t97 t16 t126 t127 t128 w124 (h118.up hu125.out) (ha0.up ((((hm85.out.trans hu92.out).grow hs101.out (fun k hk => Nat.le_trans ((Nat.le_trans (hu4.out.size) hu7.out.size)) ((fun k hk => Nat.le_trans lbb9.out (Nat.le_of_eq (Option.some.inj hk))) k hk))).sto (Nat.le_trans ((Nat.le_trans ((Nat.le_trans ((Nat.le_trans ((Nat.le_trans ((Nat.le_trans ((Nat.le_trans ((Nat.le_trans (hu4.out.size) hu7.out.size)) hu14.out.size)) hs22.out.size)) hs32.out.size)) hs40.out.size)) hs47.out.size)) hu50.out.size)) lbb51.out) hs114.out).trans hu125.out)) (fun k hk hp => Nat.ne_of_lt (Nat.lt_of_lt_of_le ((ha0.up (hu4.out.trans hu7.out)).blk_lt hp k hk) lbb9.out)) A129.out) ?_
  rintro e w130 ⟨rfl, h131, hs⟩
  have hs132 := Aside0.mk hs
  clear hs
  have h133 := (h116.up hu125.out).grow hs132.out (fun k hk e => (Ne.symm (Nat.ne_of_lt (Nat.lt_of_lt_of_le (Nat.lt_of_lt_of_le ltb2.out (hu7.out.size)) lbb9.out))) ((Option.some.inj hk).trans e))
  have h134 := (h117.up hu125.out).grow hs132.out (fun k hk e => (Ne.symm (Nat.ne_of_lt (Nat.lt_of_lt_of_le ltb5.out lbb9.out))) ((Option.some.inj hk).trans e))
  have h135 := (h119.up hu125.out).grow hs132.out (fun k hk e => (Nat.ne_of_lt (Nat.lt_of_lt_of_le (Nat.lt_of_lt_of_le ltb9.out ((Nat.le_trans ((Nat.le_trans ((Nat.le_trans (hs22.out.size) hs32.out.size)) hs40.out.size)) hs47.out.size))) lbb48.out)) ((Option.some.inj hk).trans e))
  have h136 := (hb115.up hu125.out).grow hs132.out (fun k hk e => (Nat.ne_of_lt (Nat.lt_of_lt_of_le (Nat.lt_of_lt_of_le ltb9.out ((Nat.le_trans ((Nat.le_trans ((Nat.le_trans ((Nat.le_trans (hs22.out.size) hs32.out.size)) hs40.out.size)) hs47.out.size)) hu50.out.size))) lbb51.out)) ((Option.some.inj hk).trans e))
  refine ⟨_, rfl, ?_⟩
  simp only[nm]
  refine wpList_nil ?_
  refine wrapQ_k ?_
  refine late_consT ⟨h135, h136, True.intro⟩ ?_
  refine step_call wn (by go_simp <;> rfl) (spec_l06Bad.calls K b9 a0_A a0_c a0 t127 t128 t16 t24 t25 t26 t137 t138 t139 t140 t141 w130 h131 (ha0.up (((((hm85.out.trans hu92.out).grow hs101.out (fun k hk => Nat.le_trans ((Nat.le_trans (hu4.out.size) hu7.out.size)) ((fun k hk => Nat.le_trans lbb9.out (Nat.le_of_eq (Option.some.inj hk))) k hk))).sto (Nat.le_trans ((Nat.le_trans ((Nat.le_trans ((Nat.le_trans ((Nat.le_trans ((Nat.le_trans ((Nat.le_trans ((Nat.le_trans (hu4.out.size) hu7.out.size)) hu14.out.size)) hs22.out.size)) hs32.out.size)) hs40.out.size)) hs47.out.size)) hu50.out.size)) lbb51.out) hs114.out).trans hu125.out).grow hs132.out (fun k hk => Nat.le_trans ((Nat.le_trans (hu4.out.size) hu7.out.size)) ((fun k hk => Nat.le_trans lbb9.out (Nat.le_of_eq (Option.some.inj hk))) k hk)))) (fun k hk hp => Nat.ne_of_lt (Nat.lt_of_lt_of_le ((ha0.up (hu4.out.trans hu7.out)).blk_lt hp k hk) lbb9.out)) A142.out) ?_
  rintro e w143 ⟨rfl, h144, hs⟩
  have hs145 := Aside0.mk hs
  clear hs
  have h146 := h133.grow hs145.out (fun k hk e => (Ne.symm (Nat.ne_of_lt (Nat.lt_of_lt_of_le (Nat.lt_of_lt_of_le ltb2.out (hu7.out.size)) lbb9.out))) ((Option.some.inj hk).trans e))
  have h147 := h134.grow hs145.out (fun k hk e => (Ne.symm (Nat.ne_of_lt (Nat.lt_of_lt_of_le ltb5.out lbb9.out))) ((Option.some.inj hk).trans e))
  have h148 := h135.grow hs145.out (fun k hk e => (Nat.ne_of_lt (Nat.lt_of_lt_of_le (Nat.lt_of_lt_of_le ltb9.out ((Nat.le_trans ((Nat.le_trans ((Nat.le_trans (hs22.out.size) hs32.out.size)) hs40.out.size)) hs47.out.size))) lbb48.out)) ((Option.some.inj hk).trans e))
  have h149 := h136.grow hs145.out (fun k hk e => (Nat.ne_of_lt (Nat.lt_of_lt_of_le (Nat.lt_of_lt_of_le ltb9.out ((Nat.le_trans ((Nat.le_trans ((Nat.le_trans ((Nat.le_trans (hs22.out.size) hs32.out.size)) hs40.out.size)) hs47.out.size)) hu50.out.size))) lbb51.out)) ((Option.some.inj hk).trans e))
  refine ⟨_, rfl, ?_⟩
  simp only[nm]
  refine wpList_nil ?_
  refine wrapQ_k ?_
  refine late_consT ⟨h148, h149, True.intro⟩ ?_
  refine step_call wn (by go_simp <;> rfl) (spec_l01BadPoint.calls K b9 a0_A a0_c a0 t140 t141 t16 t107 t108 t150 t151 t152 t153 w143 h144 (ha0.up ((((((hm85.out.trans hu92.out).grow hs101.out (fun k hk => Nat.le_trans ((Nat.le_trans (hu4.out.size) hu7.out.size)) ((fun k hk => Nat.le_trans lbb9.out (Nat.le_of_eq (Option.some.inj hk))) k hk))).sto (Nat.le_trans ((Nat.le_trans ((Nat.le_trans ((Nat.le_trans ((Nat.le_trans ((Nat.le_trans ((Nat.le_trans ((Nat.le_trans (hu4.out.size) hu7.out.size)) hu14.out.size)) hs22.out.size)) hs32.out.size)) hs40.out.size)) hs47.out.size)) hu50.out.size)) lbb51.out) hs114.out).trans hu125.out).grow hs132.out (fun k hk => Nat.le_trans ((Nat.le_trans (hu4.out.size) hu7.out.size)) ((fun k hk => Nat.le_trans lbb9.out (Nat.le_of_eq (Option.some.inj hk))) k hk))).grow hs145.out (fun k hk => Nat.le_trans ((Nat.le_trans (hu4.out.size) hu7.out.size)) ((fun k hk => Nat.le_trans lbb9.out (Nat.le_of_eq (Option.some.inj hk))) k hk)))) (fun k hk hp => Nat.ne_of_lt (Nat.lt_of_lt_of_le ((ha0.up (hu4.out.trans hu7.out)).blk_lt hp k hk) lbb9.out)) A154.out) ?_
  rintro e w155 ⟨rfl, h156, hs⟩
  have hs157 := Aside0.mk hs
  clear hs
  have h158 := h146.grow hs157.out (fun k hk e => (Ne.symm (Nat.ne_of_lt (Nat.lt_of_lt_of_le (Nat.lt_of_lt_of_le ltb2.out (hu7.out.size)) lbb9.out))) ((Option.some.inj hk).trans e))
  have h159 := h147.grow hs157.out (fun k hk e => (Ne.symm (Nat.ne_of_lt (Nat.lt_of_lt_of_le ltb5.out lbb9.out))) ((Option.some.inj hk).trans e))
  have h160 := h148.grow hs157.out (fun k hk e => (Nat.ne_of_lt (Nat.lt_of_lt_of_le (Nat.lt_of_lt_of_le ltb9.out ((Nat.le_trans ((Nat.le_trans ((Nat.le_trans (hs22.out.size) hs32.out.size)) hs40.out.size)) hs47.out.size))) lbb48.out)) ((Option.some.inj hk).trans e))
  have h161 := h149.grow hs157.out (fun k hk e => (Nat.ne_of_lt (Nat.lt_of_lt_of_le (Nat.lt_of_lt_of_le ltb9.out ((Nat.le_trans ((Nat.le_trans ((Nat.le_trans ((Nat.le_trans (hs22.out.size) hs32.out.size)) hs40.out.size)) hs47.out.size)) hu50.out.size))) lbb51.out)) ((Option.some.inj hk).trans e))
  refine ⟨_, rfl, ?_⟩
  simp only[nm]
  refine wpList_nil ?_
  refine wrapQ_k ?_
  refine late_consT ⟨h160, h161, True.intro⟩ ?_
  refine wpp fun k h=>?_;go_simp;apply h;clear h k
  refine wpList_nil ?_
  refine wrapQ_k ?_
  refine late_consT ⟨h160, h161, True.intro⟩ ?_
  refine wpp fun k h=>?_;go_simp;apply h;clear h k
  refine wpList_nil ?_
  refine wrapQ_k ?_
  refine late_consT ⟨h160, h161, True.intro⟩ ?_
  refine stw [.int .i64 t137, .int .i64 t138, .int .i64 t139] h158 rfl rfl rfl rfl rfl (by kernel_rfl) rfl rfl ?_
  intro w162 hs163 hb164
  have h165 := h159.sto hs163.out (Ne.symm (Nat.ne_of_lt (Nat.lt_of_lt_of_le ltb2.out lbb5.out)))
  have h167 := h160.sto hs163.out (Ne.symm (Nat.ne_of_lt (Nat.lt_of_lt_of_le (Nat.lt_of_lt_of_le ltb2.out ((Nat.le_trans ((Nat.le_trans ((Nat.le_trans ((Nat.le_trans ((Nat.le_trans (hu7.out.size) hu14.out.size)) hs22.out.size)) hs32.out.size)) hs40.out.size)) hs47.out.size))) lbb48.out)))
  have h168 := h161.sto hs163.out (Ne.symm (Nat.ne_of_lt (Nat.lt_of_lt_of_le (Nat.lt_of_lt_of_le ltb2.out ((Nat.le_trans ((Nat.le_trans ((Nat.le_trans ((Nat.le_trans ((Nat.le_trans ((Nat.le_trans (hu7.out.size) hu14.out.size)) hs22.out.size)) hs32.out.size)) hs40.out.size)) hs47.out.size)) hu50.out.size))) lbb51.out)))
  refine wpList_nil ?_
  refine wrapQ_k ?_
  refine late_consT ⟨h167, h168, True.intro⟩ ?_
  refine stw [.int .i64 t150, .int .i64 t151] h165 rfl rfl rfl rfl rfl (by kernel_rfl) rfl rfl ?_
  intro w169 hs170 hb171
  have h172 := hb164.sto hs170.out (Nat.ne_of_lt (Nat.lt_of_lt_of_le ltb2.out lbb5.out))
  have h174 := h167.sto hs170.out (Ne.symm (Nat.ne_of_lt (Nat.lt_of_lt_of_le (Nat.lt_of_lt_of_le ltb5.out ((Nat.le_trans ((Nat.le_trans ((Nat.le_trans ((Nat.le_trans (hu14.out.size) hs22.out.size)) hs32.out.size)) hs40.out.size)) hs47.out.size))) lbb48.out)))
  have h175 := h168.sto hs170.out (Ne.symm (Nat.ne_of_lt (Nat.lt_of_lt_of_le (Nat.lt_of_lt_of_le ltb5.out ((Nat.le_trans ((Nat.le_trans ((Nat.le_trans ((Nat.le_trans ((Nat.le_trans (hu14.out.size) hs22.out.size)) hs32.out.size)) hs40.out.size)) hs47.out.size)) hu50.out.size))) lbb51.out)))
  refine wpList_nil ?_
  refine wrapQ_k ?_
  refine late_nilT ⟨h174, h175, True.intro⟩ ?_
  refine hK121 _ _ ?_
  refine wp_ret ?_
  refine hQf _ _ _ ?_
  have cr0 := h172.cell (o := 0) rfl
  have cr1 := h172.cell (o := 1) rfl
  have cr2 := h172.cell (o := 2) rfl
  have cr3 := hb171.cell (o := 0) rfl
  have cr4 := hb171.cell (o := 1) rfl
  exact bodyPost_ret (v := .tuple #[.int .i64 t126, .int .i64 t41, .agg #[.int .i64 t137, .int .i64 t138, .int .i64 t139], .agg #[.int .i64 t150, .int .i64 t151]]) (by first|rfl|simp [results, Tryz.results25, go_sem, cr0, cr1, cr2, cr3, cr4]<;>rfl) rfl ⟨rfl, (((((((((hm85.out.trans hu92.out).grow hs101.out (fun k hk => Nat.le_trans ((Nat.le_trans (hu4.out.size) hu7.out.size)) ((fun k hk => Nat.le_trans lbb9.out (Nat.le_of_eq (Option.some.inj hk))) k hk))).sto (Nat.le_trans ((Nat.le_trans ((Nat.le_trans ((Nat.le_trans ((Nat.le_trans ((Nat.le_trans ((Nat.le_trans ((Nat.le_trans (hu4.out.size) hu7.out.size)) hu14.out.size)) hs22.out.size)) hs32.out.size)) hs40.out.size)) hs47.out.size)) hu50.out.size)) lbb51.out) hs114.out).trans hu125.out).grow hs132.out (fun k hk => Nat.le_trans ((Nat.le_trans (hu4.out.size) hu7.out.size)) ((fun k hk => Nat.le_trans lbb9.out (Nat.le_of_eq (Option.some.inj hk))) k hk))).grow hs145.out (fun k hk => Nat.le_trans ((Nat.le_trans (hu4.out.size) hu7.out.size)) ((fun k hk => Nat.le_trans lbb9.out (Nat.le_of_eq (Option.some.inj hk))) k hk))).grow hs157.out (fun k hk => Nat.le_trans ((Nat.le_trans (hu4.out.size) hu7.out.size)) ((fun k hk => Nat.le_trans lbb9.out (Nat.le_of_eq (Option.some.inj hk))) k hk))).sto (Nat.le_trans (Nat.le_refl _) lbb2.out) hs163.out).sto (Nat.le_trans (hu4.out.size) lbb5.out) hs170.out)⟩

set_option maxHeartbeats 40000000 in
set_option maxRecDepth 100000 in
theorem spec_DrawTangentAt.calls (K : Nat) (a0_A : Option Addr) (a0_c : Nat) (a0 : List (Int)) (r0 : Int) (r1 : Int) (r2 : Int) (r3 : Int) (r4 : Int) (r5 : Int) (r6 : Int) (w : World) (ha0 : Rd eU8 w a0_A a0) (h : spec_DrawTangentAt.f K a0 = some (r0, r1, r2, r3, r4, r5, r6)) :
    Calls Tryz.prog 5 #[.slice a0_A a0.length a0_c] w fun e w' => e = .returned (.tuple #[.int .i64 r0, .int .i64 r1, .agg #[.int .i64 r2, .int .i64 r3, .int .i64 r4], .agg #[.int .i64 r5, .int .i64 r6]]) ∧ Up w w' := by
 have H : (((spec_l06With.f K a0).bind fun (t9, t10, t11, t12, t13, t14, t15) => some (t9, t10, t11, t12, t13, t14, t15)) : Option (Int × Int × Int × Int × Int × Int × Int)) = some (r0, r1, r2, r3, r4, r5, r6) := h
 clear h
 obtain ⟨⟨t9, t10, t11, t12, t13, t14, t15⟩,A16,H⟩:=bnd H;try dsimp only at H
 simp only [Option.some.injEq, Prod.mk.injEq] at H
 obtain ⟨rfl, rfl, rfl, rfl, rfl, rfl, rfl⟩ := H
 go_enter Tryz.func5, Tryz.ntmps5
 refine wp_hide (fun Qf hQf => ?_)
 refine wsr fun _ hK1=>?_
 iterate 2 (refine wpp fun k h=>?_;go_simp;apply h;clear h k)
 refine stp (cs := [.int .i64 0, .int .i64 0, .int .i64 0]) (T := 27) ?_
 intro b2 w3 hu4 lbb2 ltb2 hb2
 simp only[nm]
 refine stp (cs := [.int .i64 0, .int .i64 0]) (T := 25) ?_
 intro b5 w6 hu7 lbb5 ltb5 hb5
 simp only[nm]
 refine wln (hK1 _ _ ?_)
 refine wsr fun _ hK8=>?_
 refine wpp fun k h=>?_;go_simp;apply h;clear h k
 refine stc (spec_l06With.calls K a0_A a0_c a0 t9 t10 t11 t12 t13 t14 t15 w6 (ha0.up (hu4.out.trans hu7.out)) A16.out) ?_
 intro w17 hu18
 simp only[nm]
 iterate 6 (refine wpp fun k h=>?_;go_simp;apply h;clear h k)
 refine stw [.int .i64 t11, .int .i64 t12, .int .i64 t13] (hb2.up (hu7.out.trans hu18.out)) rfl rfl rfl rfl rfl (by kernel_rfl) rfl rfl ?_
 intro w19 hs20 hb21
 have h22 := (hb5.up hu18.out).sto hs20.out (Ne.symm (Nat.ne_of_lt (Nat.lt_of_lt_of_le ltb2.out lbb5.out)))
 refine stw [.int .i64 t14, .int .i64 t15] h22 rfl rfl rfl rfl rfl (by kernel_rfl) rfl rfl ?_
 intro w23 hs24 hb25
 have h26 := hb21.sto hs24.out (Nat.ne_of_lt (Nat.lt_of_lt_of_le ltb2.out lbb5.out))
 refine wln (hK8 _ _ ?_)
 refine wp_ret ?_
 refine hQf _ _ _ ?_
 have cr0 := h26.cell (o := 0) rfl
 have cr1 := h26.cell (o := 1) rfl
 have cr2 := h26.cell (o := 2) rfl
 have cr3 := hb25.cell (o := 0) rfl
 have cr4 := hb25.cell (o := 1) rfl
 exact bodyPost_ret (v := .tuple #[.int .i64 t9, .int .i64 t10, .agg #[.int .i64 t11, .int .i64 t12, .int .i64 t13], .agg #[.int .i64 t14, .int .i64 t15]]) (by first|rfl|simp [results, Tryz.results5, go_sem, cr0, cr1, cr2, cr3, cr4]<;>rfl) rfl ⟨rfl, ((((hu4.out.trans hu7.out).trans hu18.out).sto (Nat.le_trans (Nat.le_refl _) lbb2.out) hs20.out).sto (Nat.le_trans (hu4.out.size) lbb5.out) hs24.out)⟩

set_option maxHeartbeats 40000000 in
set_option maxRecDepth 100000 in
theorem impl_IsField.calls (K : Nat) (a0 : Int) (r0 : Bool) (w : World)  (h : impl_IsField.f K a0 = some (r0)) :
    Calls Tryz.prog 65 #[.int .i64 a0] w fun e w' => e = .returned (.bool r0) ∧ Up w w' := by
 have H : ((if (a0 == 3) = true then some true else (if (a0 == 5) = true then some true else (if (a0 == 7) = true then some true else (if (a0 == 11) = true then some true else (if (a0 == 13) = true then some true else (if (a0 == 17) = true then some true else (if (a0 == 19) = true then some true else (if (a0 == 23) = true then some true else (if (a0 == 29) = true then some true else (if (a0 == 31) = true then some true else some false)))))))))) : Option (Bool)) = some (r0) := h
 clear h
 go_enter Tryz.func65, Tryz.ntmps65
 refine wp_hide (fun Qf hQf => ?_)
 refine wsr fun _ hK1=>?_
 refine wpp fun k h=>?_;go_simp;apply h;clear h k
 refine wln (hK1 _ _ ?_)
 refine wp_seq_k fun K2 hK2=>?_
 refine wsr fun _ hK3=>?_
 refine wpp fun k h=>?_;go_simp;apply h;clear h k
 refine wln (hK3 _ _ ?_)
 refine wp_block ?_
 refine wp_seq_k fun K4 hK4=>?_
 refine wsr fun _ hK5=>?_
 iterate 2 (refine wpp fun k h=>?_;go_simp;apply h;clear h k)
 refine wln (hK5 _ _ ?_)
 by_cases c6 : (a0 == 3) = true
 ·
  rw [if_pos c6] at H
  have c6n : (a0 != 3) = false := by rw [bne, c6]; rfl
  obtain rfl := Option.some.inj H
  try simp only [c6, c6n, Bool.not_true, Bool.not_false]
  refine wp_cond_true rfl ?_
  refine wp_skip ?_
  refine hK4 _ _ ?_
  refine wp_cond_true rfl ?_
  refine wsr fun _ hK7=>?_
  refine wpp fun k h=>?_;go_simp;apply h;clear h k
  refine wln (hK7 _ _ ?_)
  refine wp_ret ?_
  refine hQf _ _ _ ?_
  exact bpr (v := .bool true) ⟨rfl, (Up.refl _)⟩
 rw [if_neg c6] at H; replace c6 := Bool.eq_false_iff.mpr c6
 have c6n : (a0 != 3) = true := by rw [bne, c6]; rfl
 have c6p : ¬ a0 = 3 := fun e => by simp [e] at c6
 try simp only [c6, c6n, Bool.not_true, Bool.not_false]
 refine wp_cond_false rfl ?_
 refine wsr fun _ hK8=>?_
 iterate 2 (refine wpp fun k h=>?_;go_simp;apply h;clear h k)
 refine wln (hK8 _ _ ?_)
 by_cases c9 : (a0 == 5) = true
 ·
  rw [if_pos c9] at H
  have c9n : (a0 != 5) = false := by rw [bne, c9]; rfl
  obtain rfl := Option.some.inj H
  try simp only [c9, c9n, Bool.not_true, Bool.not_false]
  refine wp_cond_true rfl ?_
  refine wp_skip ?_
  refine hK4 _ _ ?_
  refine wp_cond_true rfl ?_
  refine wsr fun _ hK10=>?_
  refine wpp fun k h=>?_;go_simp;apply h;clear h k
  refine wln (hK10 _ _ ?_)
  refine wp_ret ?_
  refine hQf _ _ _ ?_
  exact bpr (v := .bool true) ⟨rfl, (Up.refl _)⟩
 rw [if_neg c9] at H; replace c9 := Bool.eq_false_iff.mpr c9
 have c9n : (a0 != 5) = true := by rw [bne, c9]; rfl
 have c9p : ¬ a0 = 5 := fun e => by simp [e] at c9
 try simp only [c9, c9n, Bool.not_true, Bool.not_false]
 refine wp_cond_false rfl ?_
 refine wsr fun _ hK11=>?_
 iterate 2 (refine wpp fun k h=>?_;go_simp;apply h;clear h k)
 refine wln (hK11 _ _ ?_)
 by_cases c12 : (a0 == 7) = true
 ·
  rw [if_pos c12] at H
  have c12n : (a0 != 7) = false := by rw [bne, c12]; rfl
  obtain rfl := Option.some.inj H
  try simp only [c12, c12n, Bool.not_true, Bool.not_false]
  refine wp_cond_true rfl ?_
  refine wp_skip ?_
  refine hK4 _ _ ?_
  refine wp_cond_true rfl ?_
  refine wsr fun _ hK13=>?_
  refine wpp fun k h=>?_;go_simp;apply h;clear h k
  refine wln (hK13 _ _ ?_)
  refine wp_ret ?_
  refine hQf _ _ _ ?_
  exact bpr (v := .bool true) ⟨rfl, (Up.refl _)⟩
 rw [if_neg c12] at H; replace c12 := Bool.eq_false_iff.mpr c12
 have c12n : (a0 != 7) = true := by rw [bne, c12]; rfl
 have c12p : ¬ a0 = 7 := fun e => by simp [e] at c12
 try simp only [c12, c12n, Bool.not_true, Bool.not_false]
 refine wp_cond_false rfl ?_
 refine wsr fun _ hK14=>?_
 iterate 2 (refine wpp fun k h=>?_;go_simp;apply h;clear h k)
 refine wln (hK14 _ _ ?_)
 by_cases c15 : (a0 == 11) = true
 ·
  rw [if_pos c15] at H
  have c15n : (a0 != 11) = false := by rw [bne, c15]; rfl
  obtain rfl := Option.some.inj H
  try simp only [c15, c15n, Bool.not_true, Bool.not_false]
  refine wp_cond_true rfl ?_
  refine wp_skip ?_
  refine hK4 _ _ ?_
  refine wp_cond_true rfl ?_
  refine wsr fun _ hK16=>?_
  refine wpp fun k h=>?_;go_simp;apply h;clear h k
  refine wln (hK16 _ _ ?_)
  refine wp_ret ?_
  refine hQf _ _ _ ?_
  exact bpr (v := .bool true) ⟨rfl, (Up.refl _)⟩
 rw [if_neg c15] at H; replace c15 := Bool.eq_false_iff.mpr c15
 have c15n : (a0 != 11) = true := by rw [bne, c15]; rfl
 have c15p : ¬ a0 = 11 := fun e => by simp [e] at c15
 try simp only [c15, c15n, Bool.not_true, Bool.not_false]
 refine wp_cond_false rfl ?_
 refine wsr fun _ hK17=>?_
 iterate 2 (refine wpp fun k h=>?_;go_simp;apply h;clear h k)
 refine wln (hK17 _ _ ?_)
 by_cases c18 : (a0 == 13) = true
 ·
  rw [if_pos c18] at H
  have c18n : (a0 != 13) = false := by rw [bne, c18]; rfl
  obtain rfl := Option.some.inj H
  try simp only [c18, c18n, Bool.not_true, Bool.not_false]
  refine wp_cond_true rfl ?_
  refine wp_skip ?_
  refine hK4 _ _ ?_
  refine wp_cond_true rfl ?_
  refine wsr fun _ hK19=>?_
  refine wpp fun k h=>?_;go_simp;apply h;clear h k
  refine wln (hK19 _ _ ?_)
  refine wp_ret ?_
  refine hQf _ _ _ ?_
  exact bpr (v := .bool true) ⟨rfl, (Up.refl _)⟩
 rw [if_neg c18] at H; replace c18 := Bool.eq_false_iff.mpr c18
 have c18n : (a0 != 13) = true := by rw [bne, c18]; rfl
 have c18p : ¬ a0 = 13 := fun e => by simp [e] at c18
 try simp only [c18, c18n, Bool.not_true, Bool.not_false]
 refine wp_cond_false rfl ?_
 refine wsr fun _ hK20=>?_
 iterate 2 (refine wpp fun k h=>?_;go_simp;apply h;clear h k)
 refine wln (hK20 _ _ ?_)
 by_cases c21 : (a0 == 17) = true
 ·
  rw [if_pos c21] at H
  have c21n : (a0 != 17) = false := by rw [bne, c21]; rfl
  obtain rfl := Option.some.inj H
  try simp only [c21, c21n, Bool.not_true, Bool.not_false]
  refine wp_cond_true rfl ?_
  refine wp_skip ?_
  refine hK4 _ _ ?_
  refine wp_cond_true rfl ?_
  refine wsr fun _ hK22=>?_
  refine wpp fun k h=>?_;go_simp;apply h;clear h k
  refine wln (hK22 _ _ ?_)
  refine wp_ret ?_
  refine hQf _ _ _ ?_
  exact bpr (v := .bool true) ⟨rfl, (Up.refl _)⟩
 rw [if_neg c21] at H; replace c21 := Bool.eq_false_iff.mpr c21
 have c21n : (a0 != 17) = true := by rw [bne, c21]; rfl
 have c21p : ¬ a0 = 17 := fun e => by simp [e] at c21
 try simp only [c21, c21n, Bool.not_true, Bool.not_false]
 refine wp_cond_false rfl ?_
 refine wsr fun _ hK23=>?_
 iterate 2 (refine wpp fun k h=>?_;go_simp;apply h;clear h k)
 refine wln (hK23 _ _ ?_)
 by_cases c24 : (a0 == 19) = true
 ·
  rw [if_pos c24] at H
  have c24n : (a0 != 19) = false := by rw [bne, c24]; rfl
  obtain rfl := Option.some.inj H
  try simp only [c24, c24n, Bool.not_true, Bool.not_false]
  refine wp_cond_true rfl ?_
  refine wp_skip ?_
  refine hK4 _ _ ?_
  refine wp_cond_true rfl ?_
  refine wsr fun _ hK25=>?_
  refine wpp fun k h=>?_;go_simp;apply h;clear h k
  refine wln (hK25 _ _ ?_)
  refine wp_ret ?_
  refine hQf _ _ _ ?_
  exact bpr (v := .bool true) ⟨rfl, (Up.refl _)⟩
 rw [if_neg c24] at H; replace c24 := Bool.eq_false_iff.mpr c24
 have c24n : (a0 != 19) = true := by rw [bne, c24]; rfl
 have c24p : ¬ a0 = 19 := fun e => by simp [e] at c24
 try simp only [c24, c24n, Bool.not_true, Bool.not_false]
 refine wp_cond_false rfl ?_
 refine wsr fun _ hK26=>?_
 iterate 2 (refine wpp fun k h=>?_;go_simp;apply h;clear h k)
 refine wln (hK26 _ _ ?_)
 by_cases c27 : (a0 == 23) = true
 ·
  rw [if_pos c27] at H
  have c27n : (a0 != 23) = false := by rw [bne, c27]; rfl
  obtain rfl := Option.some.inj H
  try simp only [c27, c27n, Bool.not_true, Bool.not_false]
  refine wp_cond_true rfl ?_
  refine wp_skip ?_
  refine hK4 _ _ ?_
  refine wp_cond_true rfl ?_
  refine wsr fun _ hK28=>?_
  refine wpp fun k h=>?_;go_simp;apply h;clear h k
  refine wln (hK28 _ _ ?_)
  refine wp_ret ?_
  refine hQf _ _ _ ?_
  exact bpr (v := .bool true) ⟨rfl, (Up.refl _)⟩
 rw [if_neg c27] at H; replace c27 := Bool.eq_false_iff.mpr c27
 have c27n : (a0 != 23) = true := by rw [bne, c27]; rfl
 have c27p : ¬ a0 = 23 := fun e => by simp [e] at c27
 try simp only [c27, c27n, Bool.not_true, Bool.not_false]
 refine wp_cond_false rfl ?_
 refine wsr fun _ hK29=>?_
 iterate 2 (refine wpp fun k h=>?_;go_simp;apply h;clear h k)
 refine wln (hK29 _ _ ?_)
 by_cases c30 : (a0 == 29) = true
 ·
  rw [if_pos c30] at H
  have c30n : (a0 != 29) = false := by rw [bne, c30]; rfl
  obtain rfl := Option.some.inj H
  try simp only [c30, c30n, Bool.not_true, Bool.not_false]
  refine wp_cond_true rfl ?_
  refine wp_skip ?_
  refine hK4 _ _ ?_
  refine wp_cond_true rfl ?_
  refine wsr fun _ hK31=>?_
  refine wpp fun k h=>?_;go_simp;apply h;clear h k
  refine wln (hK31 _ _ ?_)
  refine wp_ret ?_
  refine hQf _ _ _ ?_
  exact bpr (v := .bool true) ⟨rfl, (Up.refl _)⟩
 rw [if_neg c30] at H; replace c30 := Bool.eq_false_iff.mpr c30
 have c30n : (a0 != 29) = true := by rw [bne, c30]; rfl
 have c30p : ¬ a0 = 29 := fun e => by simp [e] at c30
 try simp only [c30, c30n, Bool.not_true, Bool.not_false]
 refine wp_cond_false rfl ?_
 refine wp_region_lit ?_
 iterate 2 (refine wpp fun k h=>?_;go_simp;apply h;clear h k)
 refine wln (hK4 _ _ ?_)
 by_cases c32 : (a0 == 31) = true
 ·
  rw [if_pos c32] at H
  have c32n : (a0 != 31) = false := by rw [bne, c32]; rfl
  obtain rfl := Option.some.inj H
  try simp only [c32, c32n, Bool.not_true, Bool.not_false]
  refine wp_cond_true rfl ?_
  refine wsr fun _ hK33=>?_
  refine wpp fun k h=>?_;go_simp;apply h;clear h k
  refine wln (hK33 _ _ ?_)
  refine wp_ret ?_
  refine hQf _ _ _ ?_
  exact bpr (v := .bool true) ⟨rfl, (Up.refl _)⟩
 rw [if_neg c32] at H; replace c32 := Bool.eq_false_iff.mpr c32
 have c32n : (a0 != 31) = true := by rw [bne, c32]; rfl
 have c32p : ¬ a0 = 31 := fun e => by simp [e] at c32
 obtain rfl := Option.some.inj H
 try simp only [c32, c32n, Bool.not_true, Bool.not_false]
 refine wp_cond_false rfl ?_
 refine wp_skip ?_
 refine hK2 _ _ ?_
 refine wsr fun _ hK34=>?_
 refine wpp fun k h=>?_;go_simp;apply h;clear h k
 refine wln (hK34 _ _ ?_)
 refine wp_ret ?_
 refine hQf _ _ _ ?_
 exact bpr (v := .bool false) ⟨rfl, (Up.refl _)⟩

set_option maxHeartbeats 40000000 in
set_option maxRecDepth 100000 in
theorem impl_isColour.calls (K : Nat) (a0 : Int) (r0 : Bool) (w : World)  (h : impl_isColour.f K a0 = some (r0)) :
    Calls Tryz.prog 28 #[.int .i64 a0] w fun e w' => e = .returned (.bool r0) ∧ Up w w' := by
 have H : ((if decide (0 ≤ a0) = true then some (decide (a0 ≤ 2)) else some false) : Option (Bool)) = some (r0) := h
 clear h
 go_enter Tryz.func28, Tryz.ntmps28
 refine wp_hide (fun Qf hQf => ?_)
 refine wsr fun _ hK1=>?_
 refine wpp fun k h=>?_;go_simp;apply h;clear h k
 refine wln (hK1 _ _ ?_)
 refine wsr fun _ hK2=>?_
 iterate 3 (refine wpp fun k h=>?_;go_simp;apply h;clear h k)
 by_cases c3 : (decide (0 ≤ a0)) = true
 ·
  rw [if_pos c3] at H
  obtain rfl := Option.some.inj H
  try simp only [c3, Bool.not_true, Bool.not_false]
  refine wpList_step fun k h=>?_;go_simp;apply h;clear h k
  refine wpList_step fun k h=>?_;go_simp;apply h;clear h k
  iterate 2 (refine wpp fun k h=>?_;go_simp;apply h;clear h k)
  refine wln (hK2 _ _ ?_)
  refine wp_ret ?_
  refine hQf _ _ _ ?_
  exact bpr (v := .bool (decide (a0 ≤ 2))) ⟨rfl, (Up.refl _)⟩
 rw [if_neg c3] at H; replace c3 := Bool.eq_false_iff.mpr c3
 obtain rfl := Option.some.inj H
 try simp only [c3, Bool.not_true, Bool.not_false]
 refine step_no rfl ?_
 simp only[nm]
 refine step_no rfl ?_
 simp only[nm]
 iterate 2 (refine wpp fun k h=>?_;go_simp;apply h;clear h k)
 refine wln (hK2 _ _ ?_)
 refine wp_ret ?_
 refine hQf _ _ _ ?_
 exact bpr (v := .bool false) ⟨rfl, (Up.refl _)⟩

set_option maxHeartbeats 40000000 in
set_option maxRecDepth 100000 in
theorem impl_isNumber.calls (K : Nat) (a0 : Int) (a1 : Int) (r0 : Bool) (w : World)  (h : impl_isNumber.f K a0 a1 = some (r0)) :
    Calls Tryz.prog 82 #[.int .i64 a0, .int .i64 a1] w fun e w' => e = .returned (.bool r0) ∧ Up w w' := by
 have H : ((if decide (0 ≤ a1) = true then some (decide (a1 < a0)) else some false) : Option (Bool)) = some (r0) := h
 clear h
 go_enter Tryz.func82, Tryz.ntmps82
 refine wp_hide (fun Qf hQf => ?_)
 refine wsr fun _ hK1=>?_
 refine wpp fun k h=>?_;go_simp;apply h;clear h k
 refine wln (hK1 _ _ ?_)
 refine wsr fun _ hK2=>?_
 iterate 3 (refine wpp fun k h=>?_;go_simp;apply h;clear h k)
 by_cases c3 : (decide (0 ≤ a1)) = true
 ·
  rw [if_pos c3] at H
  obtain rfl := Option.some.inj H
  try simp only [c3, Bool.not_true, Bool.not_false]
  refine wpList_step fun k h=>?_;go_simp;apply h;clear h k
  refine wpList_step fun k h=>?_;go_simp;apply h;clear h k
  refine wpList_step fun k h=>?_;go_simp;apply h;clear h k
  iterate 2 (refine wpp fun k h=>?_;go_simp;apply h;clear h k)
  refine wln (hK2 _ _ ?_)
  refine wp_ret ?_
  refine hQf _ _ _ ?_
  exact bpr (v := .bool (decide (a1 < a0))) ⟨rfl, (Up.refl _)⟩
 rw [if_neg c3] at H; replace c3 := Bool.eq_false_iff.mpr c3
 obtain rfl := Option.some.inj H
 try simp only [c3, Bool.not_true, Bool.not_false]
 refine step_no rfl ?_
 simp only[nm]
 refine step_no rfl ?_
 simp only[nm]
 refine step_no rfl ?_
 simp only[nm]
 iterate 2 (refine wpp fun k h=>?_;go_simp;apply h;clear h k)
 refine wln (hK2 _ _ ?_)
 refine wp_ret ?_
 refine hQf _ _ _ ?_
 exact bpr (v := .bool false) ⟨rfl, (Up.refl _)⟩

set_option maxHeartbeats 40000000 in
set_option maxRecDepth 100000 in
theorem impl_areNumbers.calls (K : Nat) (a0 : Int) (a1_A : Option Addr) (a1_c : Nat) (a1 : List (Int)) (r0 : Bool) (w : World) (ha1 : Rd eI w a1_A a1) (h : impl_areNumbers.f K a0 a1 = some (r0)) :
    Calls Tryz.prog 83 #[.int .i64 a0, .slice a1_A a1.length a1_c] w fun e w' => e = .returned (.bool r0) ∧ Up w w' := by
 have H : ((impl_areNumbers.l0 K a0 a1 K 0) : Option (Bool)) = some (r0) := h
 clear h
 go_enter Tryz.func83, Tryz.ntmps83
 refine wp_hide (fun Qf hQf => ?_)
 refine wsr fun _ hK1=>?_
 refine wpp fun k h=>?_;go_simp;apply h;clear h k
 refine wln (hK1 _ _ ?_)
 refine wp_seq_k fun K2 hK2=>?_
 refine wsr fun _ hK3=>?_
 iterate 3 (refine wpp fun k h=>?_;go_simp;apply h;clear h k)
 refine wln (hK3 _ _ ?_)
 refine wp_block ?_
 have HL8 := Aside0.mk H
 clear H
 go_loopg [9] K (fun kq v9 w' => ∃ (x4 : Int), v9 = .int .i64 x4 ∧ Aside0 (impl_areNumbers.l0 K a0 a1 kq x4 = some (r0)) ∧ Aside0 (kq ≤ K) ∧ Aside0 (Up w w') ∧ Aside0 (w.heap.size ≤ w'.heap.size))
 case atStart => exact ⟨0, (by first | rfl | simp), HL8, ⟨Nat.le_refl _⟩, ⟨(Up.refl _)⟩, ⟨Nat.le_refl _⟩⟩
 case round =>
  rename_i J11 K12 hJ11 hK12
  obtain ⟨x4, rfl, HL13, hk10, hu6, hz7⟩ := hrel
  obtain ⟨w5, rfl⟩ : ∃ wo : World, wo = wr := ⟨_, rfl⟩
  obtain ⟨k9, rfl⟩ | rfl : (∃ k, gk = k + 1) ∨ gk = 0 := by rcases gk with _ | k; exact .inr rfl; exact .inl ⟨k, rfl⟩
  case inr => exact absurd HL13.out (by simp [impl_areNumbers.l0])
  have H := HL13.out
  clear HL13
  rw [impl_areNumbers.l0] at H
  refine wsr fun _ hK14=>?_
  refine wpp fun k h=>?_;go_simp;apply h;clear h k
  refine wln (hK14 _ _ ?_)
  refine wp_seq_k fun K15 hK15=>?_
  by_cases c16 : (decide (x4 < (a1.length : Int))) = true
  rotate_left
  ·
   rw [if_neg c16] at H; replace c16 := Bool.eq_false_iff.mpr c16
   obtain rfl := Option.some.inj H
   try simp only [c16, Bool.not_true, Bool.not_false]
   refine wp_cond_false rfl ?_
   refine wp_exit ?_
   refine hK2 _ _ ?_
   refine wsr fun _ hK32=>?_
   refine wpp fun k h=>?_;go_simp;apply h;clear h k
   refine wln (hK32 _ _ ?_)
   refine wp_ret ?_
   refine hQf _ _ _ ?_
   exact bpr (v := .bool true) ⟨rfl, hu6.out⟩
  rw [if_pos c16] at H
  obtain ⟨t19,A20,H⟩:=bnd H;try dsimp only at H
  obtain ⟨t25,A26,H⟩:=bnd H;try dsimp only at H
  try simp only [c16, Bool.not_true, Bool.not_false]
  refine wp_cond_true rfl ?_
  refine wp_skip ?_
  refine hK15 _ _ ?_
  refine wp_seq_k fun K17 hK17=>?_
  refine wp_block ?_
  refine wsr fun _ hK18=>?_
  refine step_index eI (T := 2) wn rfl (by kernel_rfl) (by kernel_rfl) rfl rfl rfl (ha1.up hu6.out) A20.out ?_
  intro ad21 hat he
  have he22 := Aside0.mk he
  have hat23 := Aside0.mk hat
  clear he hat
  simp only[nm]
  have cl0 := he22.out 0 _ rfl
  rw [addr_add0] at cl0
  refine wpp fun k h=>?_;go_simp;apply h;clear h k
  clear cl0
  refine wpp fun k h=>?_;go_simp;apply h;clear h k
  refine wln (hK18 _ _ ?_)
  refine wsr fun _ hK24=>?_
  iterate 2 (refine wpp fun k h=>?_;go_simp;apply h;clear h k)
  refine stc (impl_isNumber.calls K a0 t19 t25 w5  A26.out) ?_
  intro w27 hu28
  simp only[nm]
  refine wpp fun k h=>?_;go_simp;apply h;clear h k
  refine wln (hK24 _ _ ?_)
  by_cases c29 : (t25) = true
  rotate_left
  ·
   rw [if_neg c29] at H; replace c29 := Bool.eq_false_iff.mpr c29
   subst c29
   obtain rfl := Option.some.inj H
   refine wp_cond_true rfl ?_
   refine wsr fun _ hK31=>?_
   refine wpp fun k h=>?_;go_simp;apply h;clear h k
   refine wln (hK31 _ _ ?_)
   refine wp_ret ?_
   refine hQf _ _ _ ?_
   exact bpr (v := .bool false) ⟨rfl, (hu6.out.trans hu28.out)⟩
  rw [if_pos c29] at H
  subst c29
  have HL30 := Aside0.mk H
  clear H
  refine wp_cond_false rfl ?_
  refine wp_skip ?_
  refine hK17 _ _ ?_
  refine wp_region_lit ?_
  iterate 2 (refine wpp fun k h=>?_;go_simp;apply h;clear h k)
  refine wln (hK12 _ _ ?_)
  go_roundg k9
  case measure => exact Nat.lt_succ_self _
  case rel => exact ⟨wrap64 (x4 + 1), (by first | rfl | simp), HL30, ⟨by have := hk10.out; omega⟩, ⟨(hu6.out.trans hu28.out)⟩, ⟨(Nat.le_trans ((Nat.le_trans (Nat.le_refl _) hz7.out)) hu28.out.size)⟩⟩

set_option maxHeartbeats 40000000 in
set_option maxRecDepth 100000 in
theorem impl_isPoint.calls (K : Nat) (a0 : Int) (a1_0 : Int) (a1_1 : Int) (r0 : Bool) (w : World)  (h : impl_isPoint.f K a0 a1_0 a1_1 = some (r0)) :
    Calls Tryz.prog 30 #[.int .i64 a0, .agg #[.int .i64 a1_0, .int .i64 a1_1]] w fun e w' => e = .returned (.bool r0) ∧ Up w w' := by
 have H : (((impl_areNumbers.f K a0 ([a1_0, a1_1])).bind fun t6 => some t6) : Option (Bool)) = some (r0) := h
 clear h
 obtain ⟨t6,A7,H⟩:=bnd H;try dsimp only at H
 obtain rfl := Option.some.inj H
 go_enter Tryz.func30, Tryz.ntmps30
 refine wp_hide (fun Qf hQf => ?_)
 refine wsr fun _ hK1=>?_
 refine stp (cs := [.int .i64 a1_0, .int .i64 a1_1]) (T := 25) ?_
 intro b2 w3 hu4 lbb2 ltb2 hb2
 simp only[nm]
 refine wpp fun k h=>?_;go_simp;apply h;clear h k
 refine wln (hK1 _ _ ?_)
 refine wsr fun _ hK5=>?_
 iterate 2 (refine wpp fun k h=>?_;go_simp;apply h;clear h k)
 refine stc (impl_areNumbers.calls K a0 (some ⟨b2, 0, none⟩) 2 ([a1_0, a1_1]) t6 w3 (Rd.of_blk (E := eI) (xs := [a1_0, a1_1]) (o := 0) hb2 (by simp) (fun j u hu => by rcases j with _ | _ | j <;> simp_all [Enc.flat, eI])) A7.out) ?_
 intro w8 hu9
 simp only[nm]
 refine wpp fun k h=>?_;go_simp;apply h;clear h k
 refine wln (hK5 _ _ ?_)
 refine wp_ret ?_
 refine hQf _ _ _ ?_
 exact bpr (v := .bool t6) ⟨rfl, (hu4.out.trans hu9.out)⟩

set_option maxHeartbeats 40000000 in
set_option maxRecDepth 100000 in
theorem impl_isCircle.calls (K : Nat) (a0 : Int) (a1_0 : Int) (a1_1 : Int) (a1_2 : Int) (r0 : Bool) (w : World)  (h : impl_isCircle.f K a0 a1_0 a1_1 a1_2 = some (r0)) :
    Calls Tryz.prog 29 #[.int .i64 a0, .agg #[.int .i64 a1_0, .int .i64 a1_1, .int .i64 a1_2]] w fun e w' => e = .returned (.bool r0) ∧ Up w w' := by
 have H : (((impl_isPoint.f K a0 a1_0 a1_1).bind fun t6 => (if t6 = true then ((impl_isNumber.f K a0 a1_2).bind fun t11 => some t11) else some false)) : Option (Bool)) = some (r0) := h
 clear h
 obtain ⟨t6,A7,H⟩:=bnd H;try dsimp only at H
 go_enter Tryz.func29, Tryz.ntmps29
 refine wp_hide (fun Qf hQf => ?_)
 refine wsr fun _ hK1=>?_
 refine stp (cs := [.int .i64 a1_0, .int .i64 a1_1, .int .i64 a1_2]) (T := 27) ?_
 intro b2 w3 hu4 lbb2 ltb2 hb2
 simp only[nm]
 refine wpp fun k h=>?_;go_simp;apply h;clear h k
 refine wln (hK1 _ _ ?_)
 refine wsr fun _ hK5=>?_
 iterate 2 (refine wpp fun k h=>?_;go_simp;apply h;clear h k)
 have cl0 := hb2.cell (o := 0) rfl
 have cl1 := hb2.cell (o := 1) rfl
 refine wpp fun k h=>?_;go_simp;apply h;clear h k
 clear cl0 cl1
 refine stc (impl_isPoint.calls K a0 a1_0 a1_1 t6 w3  A7.out) ?_
 intro w8 hu9
 simp only[nm]
 refine wpp fun k h=>?_;go_simp;apply h;clear h k
 by_cases c10 : (t6) = true
 rotate_left
 ·
  rw [if_neg c10] at H; replace c10 := Bool.eq_false_iff.mpr c10
  subst c10
  obtain rfl := Option.some.inj H
  refine step_no rfl ?_
  simp only[nm]
  refine step_no rfl ?_
  simp only[nm]
  refine step_no rfl ?_
  simp only[nm]
  refine step_no rfl ?_
  simp only[nm]
  iterate 2 (refine wpp fun k h=>?_;go_simp;apply h;clear h k)
  refine wln (hK5 _ _ ?_)
  refine wp_ret ?_
  refine hQf _ _ _ ?_
  exact bpr (v := .bool false) ⟨rfl, (hu4.out.trans hu9.out)⟩
 rw [if_pos c10] at H
 subst c10
 obtain ⟨t11,A12,H⟩:=bnd H;try dsimp only at H
 obtain rfl := Option.some.inj H
 refine wpList_step fun k h=>?_;go_simp;apply h;clear h k
 refine wpList_step fun k h=>?_;go_simp;apply h;clear h k
 have cl0 := (hb2.up hu9.out).cell (o := 2) rfl
 refine wpList_step fun k h=>?_;go_simp;apply h;clear h k
 clear cl0
 refine step_call rfl (by go_simp <;> rfl) (impl_isNumber.calls K a0 a1_2 t11 w8  A12.out) ?_
 rintro e w13 ⟨rfl, hu⟩
 have hu14 := Aside0.mk hu
 clear hu
 refine ⟨_, rfl, ?_⟩
 simp only[nm]
 iterate 2 (refine wpp fun k h=>?_;go_simp;apply h;clear h k)
 refine wln (hK5 _ _ ?_)
 refine wp_ret ?_
 refine hQf _ _ _ ?_
 exact bpr (v := .bool t11) ⟨rfl, ((hu4.out.trans hu9.out).trans hu14.out)⟩

set_option maxHeartbeats 40000000 in
set_option maxRecDepth 100000 in
theorem impl_TangentAt_1.calls (K : Nat) (bf0 : Nat) (f0_0 : Int) (bf1 : Nat) (f1_0 : Int) (bf2 : Nat) (f2_0 : Int) (f2_1 : Int) (f2_2 : Int) (bf3 : Nat) (f3_0 : Int) (f3_1 : Int) (r0 : Bool) (w : World) (hf0 : Blk w bf0 [.int .i64 f0_0] 2) (hf1 : Blk w bf1 [.int .i64 f1_0] 2) (hf2 : Blk w bf2 [.int .i64 f2_0, .int .i64 f2_1, .int .i64 f2_2] 27) (hf3 : Blk w bf3 [.int .i64 f3_0, .int .i64 f3_1] 25) (h : impl_TangentAt_1.f K f0_0 f1_0 f2_0 f2_1 f2_2 f3_0 f3_1 = some (r0)) :
    Calls Tryz.prog 27 #[.pointer (some ⟨bf0, 0, none⟩), .pointer (some ⟨bf1, 0, none⟩), .pointer (some ⟨bf2, 0, none⟩), .pointer (some ⟨bf3, 0, none⟩)] w fun e w' => e = .returned (.bool r0) ∧ Up w w' := by
 have H : (((impl_isColour.f K f0_0).bind fun t3 => (if t3 = true then ((impl_isCircle.f K f1_0 f2_0 f2_1 f2_2).bind fun t8 => (if t8 = true then ((impl_isPoint.f K f1_0 f3_0 f3_1).bind fun t13 => some t13) else some false)) else some false)) : Option (Bool)) = some (r0) := h
 clear h
 obtain ⟨t3,A4,H⟩:=bnd H;try dsimp only at H
 have ltbf0 := Aside0.mk hf0.lt
 have ltbf1 := Aside0.mk hf1.lt
 have ltbf2 := Aside0.mk hf2.lt
 have ltbf3 := Aside0.mk hf3.lt
 go_enter Tryz.func27, Tryz.ntmps27
 refine wp_hide (fun Qf hQf => ?_)
 refine wsr fun _ hK1=>?_
 refine wpp fun k h=>?_;go_simp;apply h;clear h k
 refine wln (hK1 _ _ ?_)
 refine wsr fun _ hK2=>?_
 have cl0 := hf0.cell (o := 0) rfl
 refine wpp fun k h=>?_;go_simp;apply h;clear h k
 clear cl0
 refine stc (impl_isColour.calls K f0_0 t3 w  A4.out) ?_
 intro w5 hu6
 simp only[nm]
 refine wpp fun k h=>?_;go_simp;apply h;clear h k
 by_cases c7 : (t3) = true
 rotate_left
 ·
  rw [if_neg c7] at H; replace c7 := Bool.eq_false_iff.mpr c7
  subst c7
  obtain rfl := Option.some.inj H
  refine step_no rfl ?_
  simp only[nm]
  refine step_no rfl ?_
  simp only[nm]
  refine step_no rfl ?_
  simp only[nm]
  iterate 2 (refine wpp fun k h=>?_;go_simp;apply h;clear h k)
  refine step_no rfl ?_
  simp only[nm]
  refine step_no rfl ?_
  simp only[nm]
  refine step_no rfl ?_
  simp only[nm]
  iterate 2 (refine wpp fun k h=>?_;go_simp;apply h;clear h k)
  refine wln (hK2 _ _ ?_)
  refine wp_ret ?_
  refine hQf _ _ _ ?_
  exact bpr (v := .bool false) ⟨rfl, hu6.out⟩
 rw [if_pos c7] at H
 subst c7
 obtain ⟨t8,A9,H⟩:=bnd H;try dsimp only at H
 have cl0 := (hf1.up hu6.out).cell (o := 0) rfl
 refine wpList_step fun k h=>?_;go_simp;apply h;clear h k
 clear cl0
 have cl0 := (hf2.up hu6.out).cell (o := 0) rfl
 have cl1 := (hf2.up hu6.out).cell (o := 1) rfl
 have cl2 := (hf2.up hu6.out).cell (o := 2) rfl
 refine wpList_step fun k h=>?_;go_simp;apply h;clear h k
 clear cl0 cl1 cl2
 refine step_call rfl (by go_simp <;> rfl) (impl_isCircle.calls K f1_0 f2_0 f2_1 f2_2 t8 w5  A9.out) ?_
 rintro e w10 ⟨rfl, hu⟩
 have hu11 := Aside0.mk hu
 clear hu
 refine ⟨_, rfl, ?_⟩
 simp only[nm]
 iterate 2 (refine wpp fun k h=>?_;go_simp;apply h;clear h k)
 by_cases c12 : (t8) = true
 rotate_left
 ·
  rw [if_neg c12] at H; replace c12 := Bool.eq_false_iff.mpr c12
  subst c12
  obtain rfl := Option.some.inj H
  refine step_no rfl ?_
  simp only[nm]
  refine step_no rfl ?_
  simp only[nm]
  refine step_no rfl ?_
  simp only[nm]
  iterate 2 (refine wpp fun k h=>?_;go_simp;apply h;clear h k)
  refine wln (hK2 _ _ ?_)
  refine wp_ret ?_
  refine hQf _ _ _ ?_
  exact bpr (v := .bool false) ⟨rfl, (hu6.out.trans hu11.out)⟩
 rw [if_pos c12] at H
 subst c12
 obtain ⟨t13,A14,H⟩:=bnd H;try dsimp only at H
 obtain rfl := Option.some.inj H
 have cl0 := (hf1.up (hu6.out.trans hu11.out)).cell (o := 0) rfl
 refine wpList_step fun k h=>?_;go_simp;apply h;clear h k
 clear cl0
 have cl0 := (hf3.up (hu6.out.trans hu11.out)).cell (o := 0) rfl
 have cl1 := (hf3.up (hu6.out.trans hu11.out)).cell (o := 1) rfl
 refine wpList_step fun k h=>?_;go_simp;apply h;clear h k
 clear cl0 cl1
 refine step_call rfl (by go_simp <;> rfl) (impl_isPoint.calls K f1_0 f3_0 f3_1 t13 w10  A14.out) ?_
 rintro e w15 ⟨rfl, hu⟩
 have hu16 := Aside0.mk hu
 clear hu
 refine ⟨_, rfl, ?_⟩
 simp only[nm]
 iterate 2 (refine wpp fun k h=>?_;go_simp;apply h;clear h k)
 refine wln (hK2 _ _ ?_)
 refine wp_ret ?_
 refine hQf _ _ _ ?_
 exact bpr (v := .bool t13) ⟨rfl, ((hu6.out.trans hu11.out).trans hu16.out)⟩

set_option maxHeartbeats 40000000 in
set_option maxRecDepth 100000 in
theorem impl_asked__impl_TangentAt_1.calls (K : Nat) (a0 : Int) (bc1_0 : Nat) (c1_0_0 : Int) (bc1_1 : Nat) (c1_1_0 : Int) (bc1_2 : Nat) (c1_2_0 : Int) (c1_2_1 : Int) (c1_2_2 : Int) (bc1_3 : Nat) (c1_3_0 : Int) (c1_3_1 : Int) (r0 : Int) (w : World) (hc1_0 : Blk w bc1_0 [.int .i64 c1_0_0] 2) (hc1_1 : Blk w bc1_1 [.int .i64 c1_1_0] 2) (hc1_2 : Blk w bc1_2 [.int .i64 c1_2_0, .int .i64 c1_2_1, .int .i64 c1_2_2] 27) (hc1_3 : Blk w bc1_3 [.int .i64 c1_3_0, .int .i64 c1_3_1] 25) (h : impl_asked__impl_TangentAt_1.f K a0 c1_0_0 c1_1_0 c1_2_0 c1_2_1 c1_2_2 c1_3_0 c1_3_1 = some (r0)) :
    Calls Tryz.prog 26 #[.int .i64 a0, .func (.func 27) #[] #[.pointer (some ⟨bc1_0, 0, none⟩), .pointer (some ⟨bc1_1, 0, none⟩), .pointer (some ⟨bc1_2, 0, none⟩), .pointer (some ⟨bc1_3, 0, none⟩)]] w fun e w' => e = .returned (.int .i64 r0) ∧ Up w w' := by
 have H : (((impl_IsField.f K a0).bind fun t4 => (if t4 = true then ((impl_TangentAt_1.f K c1_0_0 c1_1_0 c1_2_0 c1_2_1 c1_2_2 c1_3_0 c1_3_1).bind fun t11 => (if t11 = true then some 0 else some 2)) else some 1)) : Option (Int)) = some (r0) := h
 clear h
 obtain ⟨t4,A5,H⟩:=bnd H;try dsimp only at H
 have ltbc1_0 := Aside0.mk hc1_0.lt
 have ltbc1_1 := Aside0.mk hc1_1.lt
 have ltbc1_2 := Aside0.mk hc1_2.lt
 have ltbc1_3 := Aside0.mk hc1_3.lt
 go_enter Tryz.func26, Tryz.ntmps26
 refine wp_hide (fun Qf hQf => ?_)
 refine wsr fun _ hK1=>?_
 refine wpp fun k h=>?_;go_simp;apply h;clear h k
 refine wln (hK1 _ _ ?_)
 refine wp_seq_k fun K2 hK2=>?_
 refine wsr fun _ hK3=>?_
 refine wpp fun k h=>?_;go_simp;apply h;clear h k
 refine stc (impl_IsField.calls K a0 t4 w  A5.out) ?_
 intro w6 hu7
 simp only[nm]
 refine wpp fun k h=>?_;go_simp;apply h;clear h k
 refine wln (hK3 _ _ ?_)
 by_cases c8 : (t4) = true
 rotate_left
 ·
  rw [if_neg c8] at H; replace c8 := Bool.eq_false_iff.mpr c8
  subst c8
  obtain rfl := Option.some.inj H
  refine wp_cond_true rfl ?_
  refine wsr fun _ hK18=>?_
  refine wpp fun k h=>?_;go_simp;apply h;clear h k
  refine wln (hK18 _ _ ?_)
  refine wp_ret ?_
  refine hQf _ _ _ ?_
  exact bpr (v := .int .i64 1) ⟨rfl, hu7.out⟩
 rw [if_pos c8] at H
 subst c8
 obtain ⟨t11,A12,H⟩:=bnd H;try dsimp only at H
 refine wp_cond_false rfl ?_
 refine wp_skip ?_
 refine hK2 _ _ ?_
 refine wp_seq_k fun K9 hK9=>?_
 refine wsr fun _ hK10=>?_
 refine wpp fun k h=>?_;go_simp;apply h;clear h k
 refine stc (impl_TangentAt_1.calls K bc1_0 c1_0_0 bc1_1 c1_1_0 bc1_2 c1_2_0 c1_2_1 c1_2_2 bc1_3 c1_3_0 c1_3_1 t11 w6 (hc1_0.up hu7.out) (hc1_1.up hu7.out) (hc1_2.up hu7.out) (hc1_3.up hu7.out) A12.out) ?_
 intro w13 hu14
 simp only[nm]
 refine wpp fun k h=>?_;go_simp;apply h;clear h k
 refine wln (hK10 _ _ ?_)
 by_cases c15 : (t11) = true
 rotate_left
 ·
  rw [if_neg c15] at H; replace c15 := Bool.eq_false_iff.mpr c15
  subst c15
  obtain rfl := Option.some.inj H
  refine wp_cond_true rfl ?_
  refine wsr fun _ hK17=>?_
  refine wpp fun k h=>?_;go_simp;apply h;clear h k
  refine wln (hK17 _ _ ?_)
  refine wp_ret ?_
  refine hQf _ _ _ ?_
  exact bpr (v := .int .i64 2) ⟨rfl, (hu7.out.trans hu14.out)⟩
 rw [if_pos c15] at H
 subst c15
 obtain rfl := Option.some.inj H
 refine wp_cond_false rfl ?_
 refine wp_skip ?_
 refine hK9 _ _ ?_
 refine wsr fun _ hK16=>?_
 refine wpp fun k h=>?_;go_simp;apply h;clear h k
 refine wln (hK16 _ _ ?_)
 refine wp_ret ?_
 refine hQf _ _ _ ?_
 exact bpr (v := .int .i64 0) ⟨rfl, (hu7.out.trans hu14.out)⟩

set_option maxHeartbeats 40000000 in
set_option maxRecDepth 100000 in
theorem impl_rest.calls (K : Nat) (a0 : Int) (a1 : Int) (r0 : Int) (w : World)  (h : impl_rest.f K a0 a1 = some (r0)) :
    Calls Tryz.prog 84 #[.int .i64 a0, .int .i64 a1] w fun e w' => e = .returned (.int .i64 r0) ∧ Up w w' := by
 have H : ((if (a0 == 0) = true then none else some (Int.tmod (wrap64 ((Int.tmod a1 a0) + a0)) a0)) : Option (Int)) = some (r0) := h
 clear h
 go_enter Tryz.func84, Tryz.ntmps84
 refine wp_hide (fun Qf hQf => ?_)
 refine wsr fun _ hK1=>?_
 refine wpp fun k h=>?_;go_simp;apply h;clear h k
 refine wln (hK1 _ _ ?_)
 refine wsr fun _ hK2=>?_
 iterate 2 (refine wpp fun k h=>?_;go_simp;apply h;clear h k)
 by_cases c3 : (a0 == 0) = true
 ·
  rw [if_pos c3] at H
  have c3n : (a0 != 0) = false := by rw [bne, c3]; rfl
  exact absurd H (by simp)
 rw [if_neg c3] at H; replace c3 := Bool.eq_false_iff.mpr c3
 have c3n : (a0 != 0) = true := by rw [bne, c3]; rfl
 have c3p : ¬ a0 = 0 := fun e => by simp [e] at c3
 obtain rfl := Option.some.inj H
 try simp only [c3, c3n, Bool.not_true, Bool.not_false]
 iterate 6 (refine wpp fun k h=>?_;go_simp;apply h;clear h k)
 refine wln (hK2 _ _ ?_)
 refine wp_ret ?_
 refine hQf _ _ _ ?_
 exact bpr (v := .int .i64 (Int.tmod (wrap64 ((Int.tmod a1 a0) + a0)) a0)) ⟨rfl, (Up.refl _)⟩

set_option maxHeartbeats 40000000 in
set_option maxRecDepth 100000 in
theorem impl_less.calls (K : Nat) (a0 : Int) (a1_0 : Int) (a1_1 : Int) (a2_0 : Int) (a2_1 : Int) (r0 : Int) (r1 : Int) (w : World)  (h : impl_less.f K a0 a1_0 a1_1 a2_0 a2_1 = some (r0, r1)) :
    Calls Tryz.prog 99 #[.int .i64 a0, .agg #[.int .i64 a1_0, .int .i64 a1_1], .agg #[.int .i64 a2_0, .int .i64 a2_1]] w fun e w' => e = .returned (.agg #[.int .i64 r0, .int .i64 r1]) ∧ Up w w' := by
 have H : (((impl_rest.f K a0 (wrap64 (a1_0 - a2_0))).bind fun t12 => ((impl_rest.f K a0 (wrap64 (a1_1 - a2_1))).bind fun t14 => some (t12, t14))) : Option (Int × Int)) = some (r0, r1) := h
 clear h
 obtain ⟨t12,A13,H⟩:=bnd H;try dsimp only at H
 obtain ⟨t14,A15,H⟩:=bnd H;try dsimp only at H
 simp only [Option.some.injEq, Prod.mk.injEq] at H
 obtain ⟨rfl, rfl⟩ := H
 go_enter Tryz.func99, Tryz.ntmps99
 refine wp_hide (fun Qf hQf => ?_)
 refine wsr fun _ hK1=>?_
 refine stp (cs := [.int .i64 a1_0, .int .i64 a1_1]) (T := 25) ?_
 intro b2 w3 hu4 lbb2 ltb2 hb2
 simp only[nm]
 refine stp (cs := [.int .i64 a2_0, .int .i64 a2_1]) (T := 25) ?_
 intro b5 w6 hu7 lbb5 ltb5 hb5
 simp only[nm]
 refine stp (cs := [.int .i64 0, .int .i64 0]) (T := 25) ?_
 intro b8 w9 hu10 lbb8 ltb8 hb8
 simp only[nm]
 refine wln (hK1 _ _ ?_)
 refine wp_seq_k fun K11 hK11=>?_
 refine' wp_region_up 15 [Slot.det _, Slot.det _, Slot.det _, Slot.det _, Slot.det _, Slot.det _, Slot.det (.int .i64 t12), Slot.det _, Slot.det _, Slot.det _, Slot.det _, Slot.det _, Slot.det _, Slot.det (.int .i64 t14), Slot.det _] (by kernel_rfl) (by kernel_rfl) ?main
 case main =>
  simp only [List.take_succ_cons, List.take_zero]
  refine wpK_ops rfl (fun w1 hu => ?_) ?_
  · clear hu
    go_simp
    first | done | rfl
  simp only[nm]
  refine wpK_ops rfl (fun w1 hu => ?_) ?_
  · clear hu
    go_simp
    first | done | rfl
  simp only[nm]
  refine wpK_ops rfl (fun w1 hu => ?_) ?_
  · have cl0 := ((hb2.up (hu7.out.trans hu10.out)).up ((Up.refl _).drew.trans hu)).cell (o := 0) rfl
    go_simp
    first | done | rfl
  simp only[nm]
  refine wpK_ops rfl (fun w1 hu => ?_) ?_
  · clear hu
    go_simp
    first | done | rfl
  simp only[nm]
  refine wpK_ops rfl (fun w1 hu => ?_) ?_
  · have cl0 := ((hb5.up hu10.out).up ((Up.refl _).drew.trans hu)).cell (o := 0) rfl
    go_simp
    first | done | rfl
  simp only[nm]
  refine wpK_ops rfl (fun w1 hu => ?_) ?_
  · clear hu
    go_simp
    first | done | rfl
  simp only[nm]
  refine wpK_ops rfl (fun w1 hu => ?_) ?_
  · have hcl := (impl_rest.calls K a0 (wrap64 (a1_0 - a2_0)) t12 w1  A13.out)
    clear hu
    replace hcl := Aside0.mk hcl
    go_simp
    exact hcl.out
  simp only[nm]
  refine wpK_ops rfl (fun w1 hu => ?_) ?_
  · clear hu
    go_simp
    first | done | rfl
  simp only[nm]
  refine wpK_ops rfl (fun w1 hu => ?_) ?_
  · clear hu
    go_simp
    first | done | rfl
  simp only[nm]
  refine wpK_ops rfl (fun w1 hu => ?_) ?_
  · have cl0 := ((hb2.up (hu7.out.trans hu10.out)).up ((Up.refl _).drew.trans hu)).cell (o := 1) rfl
    go_simp
    first | done | rfl
  simp only[nm]
  refine wpK_ops rfl (fun w1 hu => ?_) ?_
  · clear hu
    go_simp
    first | done | rfl
  simp only[nm]
  refine wpK_ops rfl (fun w1 hu => ?_) ?_
  · have cl0 := ((hb5.up hu10.out).up ((Up.refl _).drew.trans hu)).cell (o := 1) rfl
    go_simp
    first | done | rfl
  simp only[nm]
  refine wpK_ops rfl (fun w1 hu => ?_) ?_
  · clear hu
    go_simp
    first | done | rfl
  simp only[nm]
  refine wpK_ops rfl (fun w1 hu => ?_) ?_
  · have hcl := (impl_rest.calls K a0 (wrap64 (a1_1 - a2_1)) t14 w1  A15.out)
    clear hu
    replace hcl := Aside0.mk hcl
    go_simp
    exact hcl.out
  simp only[nm]
  refine wpK_ops rfl (fun w1 hu => ?_) ?_
  · clear hu
    go_simp
    first | done | rfl
  simp only[nm]
  refine wpK_nil ?_
  intro w16 hu hap
  simp only [List.drop_succ_cons, List.drop_zero]
  replace hu := (Up.refl _).drew.trans hu
  clear hap
  have hu17 := Aside0.mk hu
  clear hu
  refine stw [.int .i64 t12, .int .i64 t14] (hb8.up hu17.out) rfl rfl rfl rfl rfl (by kernel_rfl) rfl rfl ?_
  intro w18 hs19 hb20
  refine wln (hK11 _ _ ?_)
  refine wp_ret ?_
  refine hQf _ _ _ ?_
  have cr0 := hb20.cell (o := 0) rfl
  have cr1 := hb20.cell (o := 1) rfl
  exact bodyPost_ret (v := .agg #[.int .i64 t12, .int .i64 t14]) (by first|rfl|simp [results, Tryz.results99, go_sem, cr0, cr1]<;>rfl) rfl ⟨rfl, ((((hu4.out.trans hu7.out).trans hu10.out).trans hu17.out).sto (Nat.le_trans ((Nat.le_trans (hu4.out.size) hu7.out.size)) lbb8.out) hs19.out)⟩

set_option maxHeartbeats 40000000 in
set_option maxRecDepth 100000 in
theorem impl_product.calls (K : Nat) (a0 : Int) (a1 : Int) (a2_0 : Int) (a2_1 : Int) (a3_0 : Int) (a3_1 : Int) (r0 : Int) (w : World)  (h : impl_product.f K a0 a1 a2_0 a2_1 a3_0 a3_1 = some (r0)) :
    Calls Tryz.prog 100 #[.int .i64 a0, .int .i64 a1, .agg #[.int .i64 a2_0, .int .i64 a2_1], .agg #[.int .i64 a3_0, .int .i64 a3_1]] w fun e w' => e = .returned (.int .i64 r0) ∧ Up w w' := by
 have H : ((if (a1 == 0) = true then ((impl_rest.f K a0 (wrap64 ((wrap64 (a2_0 * a3_0)) + (wrap64 (a2_1 * a3_1))))).bind fun t13 => some t13) else (if (a1 == 1) = true then ((impl_rest.f K a0 (wrap64 ((wrap64 (a2_0 * a3_0)) - (wrap64 (a2_1 * a3_1))))).bind fun t20 => some t20) else ((impl_rest.f K a0 (wrap64 ((wrap64 (a2_0 * a3_1)) + (wrap64 (a2_1 * a3_0))))).bind fun t25 => some t25))) : Option (Int)) = some (r0) := h
 clear h
 go_enter Tryz.func100, Tryz.ntmps100
 refine wp_hide (fun Qf hQf => ?_)
 refine wsr fun _ hK1=>?_
 refine stp (cs := [.int .i64 a2_0, .int .i64 a2_1]) (T := 25) ?_
 intro b2 w3 hu4 lbb2 ltb2 hb2
 simp only[nm]
 refine stp (cs := [.int .i64 a3_0, .int .i64 a3_1]) (T := 25) ?_
 intro b5 w6 hu7 lbb5 ltb5 hb5
 simp only[nm]
 refine wpp fun k h=>?_;go_simp;apply h;clear h k
 refine wln (hK1 _ _ ?_)
 refine wp_seq_k fun K8 hK8=>?_
 refine wsr fun _ hK9=>?_
 refine wpp fun k h=>?_;go_simp;apply h;clear h k
 refine wln (hK9 _ _ ?_)
 refine wp_block ?_
 refine wsr fun _ hK10=>?_
 iterate 2 (refine wpp fun k h=>?_;go_simp;apply h;clear h k)
 refine wln (hK10 _ _ ?_)
 by_cases c11 : (a1 == 0) = true
 ·
  rw [if_pos c11] at H
  have c11n : (a1 != 0) = false := by rw [bne, c11]; rfl
  obtain ⟨t13,A14,H⟩:=bnd H;try dsimp only at H
  obtain rfl := Option.some.inj H
  try simp only [c11, c11n, Bool.not_true, Bool.not_false]
  refine wp_cond_true rfl ?_
  refine wsr fun _ hK12=>?_
  iterate 2 (refine wpp fun k h=>?_;go_simp;apply h;clear h k)
  have cl0 := (hb2.up hu7.out).cell (o := 0) rfl
  refine wpp fun k h=>?_;go_simp;apply h;clear h k
  clear cl0
  refine wpp fun k h=>?_;go_simp;apply h;clear h k
  have cl0 := hb5.cell (o := 0) rfl
  refine wpp fun k h=>?_;go_simp;apply h;clear h k
  clear cl0
  iterate 2 (refine wpp fun k h=>?_;go_simp;apply h;clear h k)
  have cl0 := (hb2.up hu7.out).cell (o := 1) rfl
  refine wpp fun k h=>?_;go_simp;apply h;clear h k
  clear cl0
  refine wpp fun k h=>?_;go_simp;apply h;clear h k
  have cl0 := hb5.cell (o := 1) rfl
  refine wpp fun k h=>?_;go_simp;apply h;clear h k
  clear cl0
  iterate 2 (refine wpp fun k h=>?_;go_simp;apply h;clear h k)
  refine stc (impl_rest.calls K a0 (wrap64 ((wrap64 (a2_0 * a3_0)) + (wrap64 (a2_1 * a3_1)))) t13 w6  A14.out) ?_
  intro w15 hu16
  simp only[nm]
  refine wpp fun k h=>?_;go_simp;apply h;clear h k
  refine wln (hK12 _ _ ?_)
  refine wp_ret ?_
  refine hQf _ _ _ ?_
  exact bpr (v := .int .i64 t13) ⟨rfl, ((hu4.out.trans hu7.out).trans hu16.out)⟩
 rw [if_neg c11] at H; replace c11 := Bool.eq_false_iff.mpr c11
 have c11n : (a1 != 0) = true := by rw [bne, c11]; rfl
 have c11p : ¬ a1 = 0 := fun e => by simp [e] at c11
 try simp only [c11, c11n, Bool.not_true, Bool.not_false]
 refine wp_cond_false rfl ?_
 refine wsr fun _ hK17=>?_
 iterate 2 (refine wpp fun k h=>?_;go_simp;apply h;clear h k)
 refine wln (hK17 _ _ ?_)
 by_cases c18 : (a1 == 1) = true
 ·
  rw [if_pos c18] at H
  have c18n : (a1 != 1) = false := by rw [bne, c18]; rfl
  obtain ⟨t20,A21,H⟩:=bnd H;try dsimp only at H
  obtain rfl := Option.some.inj H
  try simp only [c18, c18n, Bool.not_true, Bool.not_false]
  refine wp_cond_true rfl ?_
  refine wsr fun _ hK19=>?_
  iterate 2 (refine wpp fun k h=>?_;go_simp;apply h;clear h k)
  have cl0 := (hb2.up hu7.out).cell (o := 0) rfl
  refine wpp fun k h=>?_;go_simp;apply h;clear h k
  clear cl0
  refine wpp fun k h=>?_;go_simp;apply h;clear h k
  have cl0 := hb5.cell (o := 0) rfl
  refine wpp fun k h=>?_;go_simp;apply h;clear h k
  clear cl0
  iterate 2 (refine wpp fun k h=>?_;go_simp;apply h;clear h k)
  have cl0 := (hb2.up hu7.out).cell (o := 1) rfl
  refine wpp fun k h=>?_;go_simp;apply h;clear h k
  clear cl0
  refine wpp fun k h=>?_;go_simp;apply h;clear h k
  have cl0 := hb5.cell (o := 1) rfl
  refine wpp fun k h=>?_;go_simp;apply h;clear h k
  clear cl0
  iterate 2 (refine wpp fun k h=>?_;go_simp;apply h;clear h k)
  refine stc (impl_rest.calls K a0 (wrap64 ((wrap64 (a2_0 * a3_0)) - (wrap64 (a2_1 * a3_1)))) t20 w6  A21.out) ?_
  intro w22 hu23
  simp only[nm]
  refine wpp fun k h=>?_;go_simp;apply h;clear h k
  refine wln (hK19 _ _ ?_)
  refine wp_ret ?_
  refine hQf _ _ _ ?_
  exact bpr (v := .int .i64 t20) ⟨rfl, ((hu4.out.trans hu7.out).trans hu23.out)⟩
 rw [if_neg c18] at H; replace c18 := Bool.eq_false_iff.mpr c18
 have c18n : (a1 != 1) = true := by rw [bne, c18]; rfl
 have c18p : ¬ a1 = 1 := fun e => by simp [e] at c18
 obtain ⟨t25,A26,H⟩:=bnd H;try dsimp only at H
 obtain rfl := Option.some.inj H
 try simp only [c18, c18n, Bool.not_true, Bool.not_false]
 refine wp_cond_false rfl ?_
 refine wp_skip ?_
 refine hK8 _ _ ?_
 refine wsr fun _ hK24=>?_
 iterate 2 (refine wpp fun k h=>?_;go_simp;apply h;clear h k)
 have cl0 := (hb2.up hu7.out).cell (o := 0) rfl
 refine wpp fun k h=>?_;go_simp;apply h;clear h k
 clear cl0
 refine wpp fun k h=>?_;go_simp;apply h;clear h k
 have cl0 := hb5.cell (o := 1) rfl
 refine wpp fun k h=>?_;go_simp;apply h;clear h k
 clear cl0
 iterate 2 (refine wpp fun k h=>?_;go_simp;apply h;clear h k)
 have cl0 := (hb2.up hu7.out).cell (o := 1) rfl
 refine wpp fun k h=>?_;go_simp;apply h;clear h k
 clear cl0
 refine wpp fun k h=>?_;go_simp;apply h;clear h k
 have cl0 := hb5.cell (o := 0) rfl
 refine wpp fun k h=>?_;go_simp;apply h;clear h k
 clear cl0
 iterate 2 (refine wpp fun k h=>?_;go_simp;apply h;clear h k)
 refine stc (impl_rest.calls K a0 (wrap64 ((wrap64 (a2_0 * a3_1)) + (wrap64 (a2_1 * a3_0)))) t25 w6  A26.out) ?_
 intro w27 hu28
 simp only[nm]
 refine wpp fun k h=>?_;go_simp;apply h;clear h k
 refine wln (hK24 _ _ ?_)
 refine wp_ret ?_
 refine hQf _ _ _ ?_
 exact bpr (v := .int .i64 t25) ⟨rfl, ((hu4.out.trans hu7.out).trans hu28.out)⟩

set_option maxHeartbeats 40000000 in
set_option maxRecDepth 100000 in
theorem impl_quadrance.calls (K : Nat) (a0 : Int) (a1 : Int) (a2_0 : Int) (a2_1 : Int) (a3_0 : Int) (a3_1 : Int) (r0 : Int) (w : World)  (h : impl_quadrance.f K a0 a1 a2_0 a2_1 a3_0 a3_1 = some (r0)) :
    Calls Tryz.prog 56 #[.int .i64 a0, .int .i64 a1, .agg #[.int .i64 a2_0, .int .i64 a2_1], .agg #[.int .i64 a3_0, .int .i64 a3_1]] w fun e w' => e = .returned (.int .i64 r0) ∧ Up w w' := by
 have H : (((impl_less.f K a0 a2_0 a2_1 a3_0 a3_1).bind fun (t9, t10) => ((impl_product.f K a0 a1 t9 t10 t9 t10).bind fun t21 => some t21)) : Option (Int)) = some (r0) := h
 clear h
 obtain ⟨⟨t9, t10⟩,A11,H⟩:=bnd H;try dsimp only at H
 obtain ⟨t21,A22,H⟩:=bnd H;try dsimp only at H
 obtain rfl := Option.some.inj H
 go_enter Tryz.func56, Tryz.ntmps56
 refine wp_hide (fun Qf hQf => ?_)
 refine wsr fun _ hK1=>?_
 refine stp (cs := [.int .i64 a2_0, .int .i64 a2_1]) (T := 25) ?_
 intro b2 w3 hu4 lbb2 ltb2 hb2
 simp only[nm]
 refine stp (cs := [.int .i64 a3_0, .int .i64 a3_1]) (T := 25) ?_
 intro b5 w6 hu7 lbb5 ltb5 hb5
 simp only[nm]
 refine wpp fun k h=>?_;go_simp;apply h;clear h k
 refine wln (hK1 _ _ ?_)
 refine wsr fun _ hK8=>?_
 refine wpp fun k h=>?_;go_simp;apply h;clear h k
 have cl0 := (hb2.up hu7.out).cell (o := 0) rfl
 have cl1 := (hb2.up hu7.out).cell (o := 1) rfl
 refine wpp fun k h=>?_;go_simp;apply h;clear h k
 clear cl0 cl1
 have cl0 := hb5.cell (o := 0) rfl
 have cl1 := hb5.cell (o := 1) rfl
 refine wpp fun k h=>?_;go_simp;apply h;clear h k
 clear cl0 cl1
 refine stc (impl_less.calls K a0 a2_0 a2_1 a3_0 a3_1 t9 t10 w6  A11.out) ?_
 intro w12 hu13
 simp only[nm]
 refine stp (cs := [.int .i64 0, .int .i64 0]) (T := 25) ?_
 intro b14 w15 hu16 lbb14 ltb14 hb14
 simp only[nm]
 refine stw [.int .i64 t9, .int .i64 t10] hb14 rfl rfl rfl rfl rfl (by kernel_rfl) rfl rfl ?_
 intro w17 hs18 hb19
 refine wln (hK8 _ _ ?_)
 refine wsr fun _ hK20=>?_
 iterate 2 (refine wpp fun k h=>?_;go_simp;apply h;clear h k)
 have cl0 := hb19.cell (o := 0) rfl
 have cl1 := hb19.cell (o := 1) rfl
 refine wpp fun k h=>?_;go_simp;apply h;clear h k
 clear cl0 cl1
 have cl0 := hb19.cell (o := 0) rfl
 have cl1 := hb19.cell (o := 1) rfl
 refine wpp fun k h=>?_;go_simp;apply h;clear h k
 clear cl0 cl1
 refine stc (impl_product.calls K a0 a1 t9 t10 t9 t10 t21 w17  A22.out) ?_
 intro w23 hu24
 simp only[nm]
 refine wpp fun k h=>?_;go_simp;apply h;clear h k
 refine wln (hK20 _ _ ?_)
 refine wp_ret ?_
 refine hQf _ _ _ ?_
 exact bpr (v := .int .i64 t21) ⟨rfl, (((((hu4.out.trans hu7.out).trans hu13.out).trans hu16.out).sto (Nat.le_trans ((Nat.le_trans ((Nat.le_trans (hu4.out.size) hu7.out.size)) hu13.out.size)) lbb14.out) hs18.out).trans hu24.out)⟩

set_option maxHeartbeats 40000000 in
set_option maxRecDepth 100000 in
theorem impl_power.calls (K : Nat) (a0 : Int) (a1 : Int) (a2_0 : Int) (a2_1 : Int) (a2_2 : Int) (a3_0 : Int) (a3_1 : Int) (r0 : Int) (w : World)  (h : impl_power.f K a0 a1 a2_0 a2_1 a2_2 a3_0 a3_1 = some (r0)) :
    Calls Tryz.prog 31 #[.int .i64 a0, .int .i64 a1, .agg #[.int .i64 a2_0, .int .i64 a2_1, .int .i64 a2_2], .agg #[.int .i64 a3_0, .int .i64 a3_1]] w fun e w' => e = .returned (.int .i64 r0) ∧ Up w w' := by
 have H : (((impl_quadrance.f K a0 a1 a2_0 a2_1 a3_0 a3_1).bind fun t9 => ((impl_rest.f K a0 (wrap64 (t9 - a2_2))).bind fun t11 => some t11)) : Option (Int)) = some (r0) := h
 clear h
 obtain ⟨t9,A10,H⟩:=bnd H;try dsimp only at H
 obtain ⟨t11,A12,H⟩:=bnd H;try dsimp only at H
 obtain rfl := Option.some.inj H
 go_enter Tryz.func31, Tryz.ntmps31
 refine wp_hide (fun Qf hQf => ?_)
 refine wsr fun _ hK1=>?_
 refine stp (cs := [.int .i64 a2_0, .int .i64 a2_1, .int .i64 a2_2]) (T := 27) ?_
 intro b2 w3 hu4 lbb2 ltb2 hb2
 simp only[nm]
 refine stp (cs := [.int .i64 a3_0, .int .i64 a3_1]) (T := 25) ?_
 intro b5 w6 hu7 lbb5 ltb5 hb5
 simp only[nm]
 refine wpp fun k h=>?_;go_simp;apply h;clear h k
 refine wln (hK1 _ _ ?_)
 refine wp_seq_k fun K8 hK8=>?_
 refine' wp_region_up 11 [Slot.det _, Slot.det _, Slot.det _, Slot.det _, Slot.det _, Slot.det _, Slot.det (.int .i64 t9), Slot.det _, Slot.det _, Slot.det _, Slot.det (.int .i64 t11)] (by kernel_rfl) (by kernel_rfl) ?main
 case main =>
  simp only [List.take_succ_cons, List.take_zero]
  refine wpK_ops rfl (fun w1 hu => ?_) ?_
  · clear hu
    go_simp
    first | done | rfl
  simp only[nm]
  refine wpK_ops rfl (fun w1 hu => ?_) ?_
  · clear hu
    go_simp
    first | done | rfl
  simp only[nm]
  refine wpK_ops rfl (fun w1 hu => ?_) ?_
  · clear hu
    go_simp
    first | done | rfl
  simp only[nm]
  refine wpK_ops rfl (fun w1 hu => ?_) ?_
  · clear hu
    go_simp
    first | done | rfl
  simp only[nm]
  refine wpK_ops rfl (fun w1 hu => ?_) ?_
  · have cl0 := ((hb2.up hu7.out).up ((Up.refl _).drew.trans hu)).cell (o := 0) rfl
    have cl1 := ((hb2.up hu7.out).up ((Up.refl _).drew.trans hu)).cell (o := 1) rfl
    go_simp
    first | done | rfl
  simp only[nm]
  refine wpK_ops rfl (fun w1 hu => ?_) ?_
  · have cl0 := (hb5.up ((Up.refl _).drew.trans hu)).cell (o := 0) rfl
    have cl1 := (hb5.up ((Up.refl _).drew.trans hu)).cell (o := 1) rfl
    go_simp
    first | done | rfl
  simp only[nm]
  refine wpK_ops rfl (fun w1 hu => ?_) ?_
  · have hcl := (impl_quadrance.calls K a0 a1 a2_0 a2_1 a3_0 a3_1 t9 w1  A10.out)
    clear hu
    replace hcl := Aside0.mk hcl
    go_simp
    exact hcl.out
  simp only[nm]
  refine wpK_ops rfl (fun w1 hu => ?_) ?_
  · clear hu
    go_simp
    first | done | rfl
  simp only[nm]
  refine wpK_ops rfl (fun w1 hu => ?_) ?_
  · have cl0 := ((hb2.up hu7.out).up ((Up.refl _).drew.trans hu)).cell (o := 2) rfl
    go_simp
    first | done | rfl
  simp only[nm]
  refine wpK_ops rfl (fun w1 hu => ?_) ?_
  · clear hu
    go_simp
    first | done | rfl
  simp only[nm]
  refine wpK_ops rfl (fun w1 hu => ?_) ?_
  · have hcl := (impl_rest.calls K a0 (wrap64 (t9 - a2_2)) t11 w1  A12.out)
    clear hu
    replace hcl := Aside0.mk hcl
    go_simp
    exact hcl.out
  simp only[nm]
  refine wpK_nil ?_
  intro w13 hu hap
  simp only [List.drop_succ_cons, List.drop_zero]
  replace hu := (Up.refl _).drew.trans hu
  clear hap
  have hu14 := Aside0.mk hu
  clear hu
  refine wpp fun k h=>?_;go_simp;apply h;clear h k
  refine wln (hK8 _ _ ?_)
  refine wp_ret ?_
  refine hQf _ _ _ ?_
  exact bpr (v := .int .i64 t11) ⟨rfl, ((hu4.out.trans hu7.out).trans hu14.out)⟩

set_option maxHeartbeats 40000000 in
set_option maxRecDepth 100000 in
theorem impl_inverse.calls (K : Nat) (a0 : Int) (a1 : Int) (r0 : Int) (w : World)  (h : impl_inverse.f K a0 a1 = some (r0)) :
    Calls Tryz.prog 101 #[.int .i64 a0, .int .i64 a1] w fun e w' => e = .returned (.int .i64 r0) ∧ Up w w' := by
 have H : ((impl_inverse.l0 K a0 a1 K 1) : Option (Int)) = some (r0) := h
 clear h
 go_enter Tryz.func101, Tryz.ntmps101
 refine wp_hide (fun Qf hQf => ?_)
 refine wsr fun _ hK1=>?_
 refine wpp fun k h=>?_;go_simp;apply h;clear h k
 refine wln (hK1 _ _ ?_)
 refine wp_seq_k fun K2 hK2=>?_
 refine wsr fun _ hK3=>?_
 refine wpp fun k h=>?_;go_simp;apply h;clear h k
 refine wln (hK3 _ _ ?_)
 refine wp_block ?_
 have HL8 := Aside0.mk H
 clear H
 go_loopg [5] K (fun kq v5 w' => ∃ (x4 : Int), v5 = .int .i64 x4 ∧ Aside0 (impl_inverse.l0 K a0 a1 kq x4 = some (r0)) ∧ Aside0 (kq ≤ K) ∧ Aside0 (Up w w') ∧ Aside0 (w.heap.size ≤ w'.heap.size))
 case atStart => exact ⟨1, (by first | rfl | simp), HL8, ⟨Nat.le_refl _⟩, ⟨(Up.refl _)⟩, ⟨Nat.le_refl _⟩⟩
 case round =>
  rename_i J11 K12 hJ11 hK12
  obtain ⟨x4, rfl, HL13, hk10, hu6, hz7⟩ := hrel
  obtain ⟨w5, rfl⟩ : ∃ wo : World, wo = wr := ⟨_, rfl⟩
  obtain ⟨k9, rfl⟩ | rfl : (∃ k, gk = k + 1) ∨ gk = 0 := by rcases gk with _ | k; exact .inr rfl; exact .inl ⟨k, rfl⟩
  case inr => exact absurd HL13.out (by simp [impl_inverse.l0])
  have H := HL13.out
  clear HL13
  rw [impl_inverse.l0] at H
  refine wp_seq_k fun K14 hK14=>?_
  refine wsr fun _ hK15=>?_
  iterate 3 (refine wpp fun k h=>?_;go_simp;apply h;clear h k)
  refine wln (hK15 _ _ ?_)
  by_cases c16 : (decide (x4 < a0)) = true
  rotate_left
  ·
   rw [if_neg c16] at H; replace c16 := Bool.eq_false_iff.mpr c16
   obtain rfl := Option.some.inj H
   try simp only [c16, Bool.not_true, Bool.not_false]
   refine wp_cond_false rfl ?_
   refine wp_exit ?_
   refine hK2 _ _ ?_
   refine wsr fun _ hK23=>?_
   refine wpp fun k h=>?_;go_simp;apply h;clear h k
   refine wln (hK23 _ _ ?_)
   refine wp_ret ?_
   refine hQf _ _ _ ?_
   exact bpr (v := .int .i64 0) ⟨rfl, hu6.out⟩
  rw [if_pos c16] at H
  try simp only [c16, Bool.not_true, Bool.not_false]
  refine wp_cond_true rfl ?_
  refine wp_skip ?_
  refine hK14 _ _ ?_
  refine wp_seq_k fun K17 hK17=>?_
  refine wp_block ?_
  refine wsr fun _ hK18=>?_
  iterate 4 (refine wpp fun k h=>?_;go_simp;apply h;clear h k)
  by_cases c19 : (a0 == 0) = true
  ·
   rw [if_pos c19] at H
   have c19n : (a0 != 0) = false := by rw [bne, c19]; rfl
   exact absurd H (by simp)
  rw [if_neg c19] at H; replace c19 := Bool.eq_false_iff.mpr c19
  have c19n : (a0 != 0) = true := by rw [bne, c19]; rfl
  have c19p : ¬ a0 = 0 := fun e => by simp [e] at c19
  try simp only [c19, c19n, Bool.not_true, Bool.not_false]
  iterate 2 (refine wpp fun k h=>?_;go_simp;apply h;clear h k)
  refine wln (hK18 _ _ ?_)
  by_cases c20 : ((Int.tmod (wrap64 (a1 * x4)) a0) == 1) = true
  ·
   rw [if_pos c20] at H
   have c20n : ((Int.tmod (wrap64 (a1 * x4)) a0) != 1) = false := by rw [bne, c20]; rfl
   obtain rfl := Option.some.inj H
   try simp only [c20, c20n, Bool.not_true, Bool.not_false]
   refine wp_cond_true rfl ?_
   refine wsr fun _ hK21=>?_
   iterate 2 (refine wpp fun k h=>?_;go_simp;apply h;clear h k)
   refine wln (hK21 _ _ ?_)
   refine wp_ret ?_
   refine hQf _ _ _ ?_
   exact bpr (v := .int .i64 x4) ⟨rfl, hu6.out⟩
  rw [if_neg c20] at H; replace c20 := Bool.eq_false_iff.mpr c20
  have c20n : ((Int.tmod (wrap64 (a1 * x4)) a0) != 1) = true := by rw [bne, c20]; rfl
  have c20p : ¬ (Int.tmod (wrap64 (a1 * x4)) a0) = 1 := fun e => by simp [e] at c20
  have HL22 := Aside0.mk H
  clear H
  try simp only [c20, c20n, Bool.not_true, Bool.not_false]
  refine wp_cond_false rfl ?_
  refine wp_skip ?_
  refine hK17 _ _ ?_
  refine wp_region_lit ?_
  iterate 3 (refine wpp fun k h=>?_;go_simp;apply h;clear h k)
  refine wln (hK12 _ _ ?_)
  go_roundg k9
  case measure => exact Nat.lt_succ_self _
  case rel => exact ⟨wrap64 (x4 + 1), (by first | rfl | simp), HL22, ⟨by have := hk10.out; omega⟩, ⟨hu6.out⟩, ⟨(Nat.le_trans (Nat.le_refl _) hz7.out)⟩⟩

set_option maxHeartbeats 40000000 in
set_option maxRecDepth 100000 in
theorem impl_divide.calls (K : Nat) (a0 : Int) (a1 : Int) (a2 : Int) (r0 : Int) (w : World)  (h : impl_divide.f K a0 a1 a2 = some (r0)) :
    Calls Tryz.prog 58 #[.int .i64 a0, .int .i64 a1, .int .i64 a2] w fun e w' => e = .returned (.int .i64 r0) ∧ Up w w' := by
 have H : (((impl_inverse.f K a0 a2).bind fun t3 => ((impl_rest.f K a0 (wrap64 (a1 * t3))).bind fun t7 => some t7)) : Option (Int)) = some (r0) := h
 clear h
 obtain ⟨t3,A4,H⟩:=bnd H;try dsimp only at H
 obtain ⟨t7,A8,H⟩:=bnd H;try dsimp only at H
 obtain rfl := Option.some.inj H
 go_enter Tryz.func58, Tryz.ntmps58
 refine wp_hide (fun Qf hQf => ?_)
 refine wsr fun _ hK1=>?_
 refine wpp fun k h=>?_;go_simp;apply h;clear h k
 refine wln (hK1 _ _ ?_)
 refine wsr fun _ hK2=>?_
 iterate 4 (refine wpp fun k h=>?_;go_simp;apply h;clear h k)
 refine stc (impl_inverse.calls K a0 a2 t3 w  A4.out) ?_
 intro w5 hu6
 simp only[nm]
 refine wpp fun k h=>?_;go_simp;apply h;clear h k
 refine stc (impl_rest.calls K a0 (wrap64 (a1 * t3)) t7 w5  A8.out) ?_
 intro w9 hu10
 simp only[nm]
 refine wpp fun k h=>?_;go_simp;apply h;clear h k
 refine wln (hK2 _ _ ?_)
 refine wp_ret ?_
 refine hQf _ _ _ ?_
 exact bpr (v := .int .i64 t7) ⟨rfl, (hu6.out.trans hu10.out)⟩

set_option maxHeartbeats 40000000 in
set_option maxRecDepth 100000 in
theorem impl_makeLine.calls (K : Nat) (a0 : Int) (a1 : Int) (a2 : Int) (a3 : Int) (r0 : Int) (r1 : Int) (r2 : Int) (w : World)  (h : impl_makeLine.f K a0 a1 a2 a3 = some (r0, r1, r2)) :
    Calls Tryz.prog 139 #[.int .i64 a0, .int .i64 a1, .int .i64 a2, .int .i64 a3] w fun e w' => e = .returned (.agg #[.int .i64 r0, .int .i64 r1, .int .i64 r2]) ∧ Up w w' := by
 have H : (((impl_rest.f K a0 a1).bind fun t6 => ((impl_rest.f K a0 a2).bind fun t10 => ((impl_rest.f K a0 a3).bind fun t14 => (if (t6 == 0) = true then ((impl_divide.f K a0 t6 t10).bind fun t24 => ((impl_divide.f K a0 t10 t10).bind fun t28 => ((impl_divide.f K a0 t14 t10).bind fun t32 => some (t24, t28, t32)))) else ((impl_divide.f K a0 t6 t6).bind fun t40 => ((impl_divide.f K a0 t10 t6).bind fun t44 => ((impl_divide.f K a0 t14 t6).bind fun t48 => some (t40, t44, t48)))))))) : Option (Int × Int × Int)) = some (r0, r1, r2) := h
 clear h
 obtain ⟨t6,A7,H⟩:=bnd H;try dsimp only at H
 obtain ⟨t10,A11,H⟩:=bnd H;try dsimp only at H
 obtain ⟨t14,A15,H⟩:=bnd H;try dsimp only at H
 go_enter Tryz.func139, Tryz.ntmps139
 refine wp_hide (fun Qf hQf => ?_)
 refine wsr fun _ hK1=>?_
 refine stp (cs := [.int .i64 0, .int .i64 0, .int .i64 0]) (T := 31) ?_
 intro b2 w3 hu4 lbb2 ltb2 hb2
 simp only[nm]
 refine wln (hK1 _ _ ?_)
 refine wsr fun _ hK5=>?_
 iterate 2 (refine wpp fun k h=>?_;go_simp;apply h;clear h k)
 refine stc (impl_rest.calls K a0 a1 t6 w3  A7.out) ?_
 intro w8 hu9
 simp only[nm]
 iterate 2 (refine wpp fun k h=>?_;go_simp;apply h;clear h k)
 refine stc (impl_rest.calls K a0 a2 t10 w8  A11.out) ?_
 intro w12 hu13
 simp only[nm]
 iterate 2 (refine wpp fun k h=>?_;go_simp;apply h;clear h k)
 refine stc (impl_rest.calls K a0 a3 t14 w12  A15.out) ?_
 intro w16 hu17
 simp only[nm]
 iterate 3 (refine wpp fun k h=>?_;go_simp;apply h;clear h k)
 refine wln (hK5 _ _ ?_)
 refine wsr fun _ hK18=>?_
 iterate 2 (refine wpp fun k h=>?_;go_simp;apply h;clear h k)
 refine wln (hK18 _ _ ?_)
 refine wp_seq_k fun K19 hK19=>?_
 refine wsr fun _ hK20=>?_
 iterate 2 (refine wpp fun k h=>?_;go_simp;apply h;clear h k)
 refine wln (hK20 _ _ ?_)
 have hm22 := Aside0.mk (((hu4.out.trans hu9.out).trans hu13.out).trans hu17.out)
 by_cases c21 : (t6 == 0) = true
 rotate_left
 ·
  rw [if_neg c21] at H; replace c21 := Bool.eq_false_iff.mpr c21
  have c21n : (t6 != 0) = true := by rw [bne, c21]; rfl
  have c21p : ¬ t6 = 0 := fun e => by simp [e] at c21
  obtain ⟨t40,A41,H⟩:=bnd H;try dsimp only at H
  obtain ⟨t44,A45,H⟩:=bnd H;try dsimp only at H
  obtain ⟨t48,A49,H⟩:=bnd H;try dsimp only at H
  simp only [Option.some.injEq, Prod.mk.injEq] at H
  obtain ⟨rfl, rfl, rfl⟩ := H
  try simp only [c21, c21n, Bool.not_true, Bool.not_false]
  refine wp_cond_false rfl ?_
  refine wp_skip ?_
  refine hK19 _ _ ?_
  refine wsr fun _ hK39=>?_
  iterate 3 (refine wpp fun k h=>?_;go_simp;apply h;clear h k)
  refine stc (impl_divide.calls K a0 t6 t6 t40 w16  A41.out) ?_
  intro w42 hu43
  simp only[nm]
  iterate 3 (refine wpp fun k h=>?_;go_simp;apply h;clear h k)
  refine stc (impl_divide.calls K a0 t10 t6 t44 w42  A45.out) ?_
  intro w46 hu47
  simp only[nm]
  iterate 3 (refine wpp fun k h=>?_;go_simp;apply h;clear h k)
  refine stc (impl_divide.calls K a0 t14 t6 t48 w46  A49.out) ?_
  intro w50 hu51
  simp only[nm]
  refine wpp fun k h=>?_;go_simp;apply h;clear h k
  refine stw [.int .i64 t40, .int .i64 t44, .int .i64 t48] (hb2.up (((((hu9.out.trans hu13.out).trans hu17.out).trans hu43.out).trans hu47.out).trans hu51.out)) rfl rfl rfl rfl rfl (by kernel_rfl) rfl rfl ?_
  intro w52 hs53 hb54
  refine wln (hK39 _ _ ?_)
  refine wp_ret ?_
  refine hQf _ _ _ ?_
  have cr0 := hb54.cell (o := 0) rfl
  have cr1 := hb54.cell (o := 1) rfl
  have cr2 := hb54.cell (o := 2) rfl
  exact bodyPost_ret (v := .agg #[.int .i64 t40, .int .i64 t44, .int .i64 t48]) (by first|rfl|simp [results, Tryz.results139, go_sem, cr0, cr1, cr2]<;>rfl) rfl ⟨rfl, ((((hm22.out.trans hu43.out).trans hu47.out).trans hu51.out).sto (Nat.le_trans (Nat.le_refl _) lbb2.out) hs53.out)⟩
 rw [if_pos c21] at H
 have c21n : (t6 != 0) = false := by rw [bne, c21]; rfl
 obtain ⟨t24,A25,H⟩:=bnd H;try dsimp only at H
 obtain ⟨t28,A29,H⟩:=bnd H;try dsimp only at H
 obtain ⟨t32,A33,H⟩:=bnd H;try dsimp only at H
 simp only [Option.some.injEq, Prod.mk.injEq] at H
 obtain ⟨rfl, rfl, rfl⟩ := H
 try simp only [c21, c21n, Bool.not_true, Bool.not_false]
 refine wp_cond_true rfl ?_
 refine wp_region_lit ?_
 iterate 2 (refine wpp fun k h=>?_;go_simp;apply h;clear h k)
 refine wln (hK19 _ _ ?_)
 refine wsr fun _ hK23=>?_
 iterate 3 (refine wpp fun k h=>?_;go_simp;apply h;clear h k)
 refine stc (impl_divide.calls K a0 t6 t10 t24 w16  A25.out) ?_
 intro w26 hu27
 simp only[nm]
 iterate 3 (refine wpp fun k h=>?_;go_simp;apply h;clear h k)
 refine stc (impl_divide.calls K a0 t10 t10 t28 w26  A29.out) ?_
 intro w30 hu31
 simp only[nm]
 iterate 3 (refine wpp fun k h=>?_;go_simp;apply h;clear h k)
 refine stc (impl_divide.calls K a0 t14 t10 t32 w30  A33.out) ?_
 intro w34 hu35
 simp only[nm]
 refine wpp fun k h=>?_;go_simp;apply h;clear h k
 refine stw [.int .i64 t24, .int .i64 t28, .int .i64 t32] (hb2.up (((((hu9.out.trans hu13.out).trans hu17.out).trans hu27.out).trans hu31.out).trans hu35.out)) rfl rfl rfl rfl rfl (by kernel_rfl) rfl rfl ?_
 intro w36 hs37 hb38
 refine wln (hK23 _ _ ?_)
 refine wp_ret ?_
 refine hQf _ _ _ ?_
 have cr0 := hb38.cell (o := 0) rfl
 have cr1 := hb38.cell (o := 1) rfl
 have cr2 := hb38.cell (o := 2) rfl
 exact bodyPost_ret (v := .agg #[.int .i64 t24, .int .i64 t28, .int .i64 t32]) (by first|rfl|simp [results, Tryz.results139, go_sem, cr0, cr1, cr2]<;>rfl) rfl ⟨rfl, ((((hm22.out.trans hu27.out).trans hu31.out).trans hu35.out).sto (Nat.le_trans (Nat.le_refl _) lbb2.out) hs37.out)⟩

set_option maxHeartbeats 40000000 in
set_option maxRecDepth 100000 in
theorem impl_through.calls (K : Nat) (a0 : Int) (a1_0 : Int) (a1_1 : Int) (a2_0 : Int) (a2_1 : Int) (r0 : Int) (r1 : Int) (r2 : Int) (w : World)  (h : impl_through.f K a0 a1_0 a1_1 a2_0 a2_1 = some (r0, r1, r2)) :
    Calls Tryz.prog 114 #[.int .i64 a0, .agg #[.int .i64 a1_0, .int .i64 a1_1], .agg #[.int .i64 a2_0, .int .i64 a2_1]] w fun e w' => e = .returned (.agg #[.int .i64 r0, .int .i64 r1, .int .i64 r2]) ∧ Up w w' := by
 have H : (((impl_makeLine.f K a0 a2_1 (wrap64 (-a2_0)) (wrap64 (-(wrap64 ((wrap64 (a2_1 * a1_0)) + (wrap64 ((wrap64 (-a2_0)) * a1_1))))))).bind fun (t15, t16, t17) => some (t15, t16, t17)) : Option (Int × Int × Int)) = some (r0, r1, r2) := h
 clear h
 obtain ⟨⟨t15, t16, t17⟩,A18,H⟩:=bnd H;try dsimp only at H
 simp only [Option.some.injEq, Prod.mk.injEq] at H
 obtain ⟨rfl, rfl, rfl⟩ := H
 go_enter Tryz.func114, Tryz.ntmps114
 refine wp_hide (fun Qf hQf => ?_)
 refine wsr fun _ hK1=>?_
 refine stp (cs := [.int .i64 a1_0, .int .i64 a1_1]) (T := 25) ?_
 intro b2 w3 hu4 lbb2 ltb2 hb2
 simp only[nm]
 refine stp (cs := [.int .i64 a2_0, .int .i64 a2_1]) (T := 25) ?_
 intro b5 w6 hu7 lbb5 ltb5 hb5
 simp only[nm]
 refine stp (cs := [.int .i64 0, .int .i64 0, .int .i64 0]) (T := 31) ?_
 intro b8 w9 hu10 lbb8 ltb8 hb8
 simp only[nm]
 refine wln (hK1 _ _ ?_)
 refine wp_seq_k fun K11 hK11=>?_
 refine' wp_region_up 7 [Slot.det _, Slot.det _, Slot.det _, Slot.det _, Slot.det _, Slot.det _, Slot.det _] (by kernel_rfl) (by kernel_rfl) ?main
 case main =>
  simp only [List.take_succ_cons, List.take_zero]
  refine wpK_ops rfl (fun w1 hu => ?_) ?_
  · clear hu
    go_simp
    first | done | rfl
  simp only[nm]
  refine wpK_ops rfl (fun w1 hu => ?_) ?_
  · have cl0 := ((hb5.up hu10.out).up ((Up.refl _).drew.trans hu)).cell (o := 1) rfl
    go_simp
    first | done | rfl
  simp only[nm]
  refine wpK_ops rfl (fun w1 hu => ?_) ?_
  · clear hu
    go_simp
    first | done | rfl
  simp only[nm]
  refine wpK_ops rfl (fun w1 hu => ?_) ?_
  · have cl0 := ((hb5.up hu10.out).up ((Up.refl _).drew.trans hu)).cell (o := 0) rfl
    go_simp
    first | done | rfl
  simp only[nm]
  refine wpK_ops rfl (fun w1 hu => ?_) ?_
  · clear hu
    go_simp
    first | done | rfl
  simp only[nm]
  refine wpK_ops rfl (fun w1 hu => ?_) ?_
  · clear hu
    go_simp
    first | done | rfl
  simp only[nm]
  refine wpK_ops rfl (fun w1 hu => ?_) ?_
  · clear hu
    go_simp
    first | done | rfl
  simp only[nm]
  refine wpK_nil ?_
  intro w12 hu hap
  simp only [List.drop_succ_cons, List.drop_zero]
  replace hu := (Up.refl _).drew.trans hu
  clear hap
  have hu13 := Aside0.mk hu
  clear hu
  refine wln (hK11 _ _ ?_)
  refine wsr fun _ hK14=>?_
  iterate 5 (refine wpp fun k h=>?_;go_simp;apply h;clear h k)
  have cl0 := (hb2.up ((hu7.out.trans hu10.out).trans hu13.out)).cell (o := 0) rfl
  refine wpp fun k h=>?_;go_simp;apply h;clear h k
  clear cl0
  iterate 3 (refine wpp fun k h=>?_;go_simp;apply h;clear h k)
  have cl0 := (hb2.up ((hu7.out.trans hu10.out).trans hu13.out)).cell (o := 1) rfl
  refine wpp fun k h=>?_;go_simp;apply h;clear h k
  clear cl0
  iterate 3 (refine wpp fun k h=>?_;go_simp;apply h;clear h k)
  refine stc (impl_makeLine.calls K a0 a2_1 (wrap64 (-a2_0)) (wrap64 (-(wrap64 ((wrap64 (a2_1 * a1_0)) + (wrap64 ((wrap64 (-a2_0)) * a1_1)))))) t15 t16 t17 w12  A18.out) ?_
  intro w19 hu20
  simp only[nm]
  refine stw [.int .i64 t15, .int .i64 t16, .int .i64 t17] (hb8.up (hu13.out.trans hu20.out)) rfl rfl rfl rfl rfl (by kernel_rfl) rfl rfl ?_
  intro w21 hs22 hb23
  refine wln (hK14 _ _ ?_)
  refine wp_ret ?_
  refine hQf _ _ _ ?_
  have cr0 := hb23.cell (o := 0) rfl
  have cr1 := hb23.cell (o := 1) rfl
  have cr2 := hb23.cell (o := 2) rfl
  exact bodyPost_ret (v := .agg #[.int .i64 t15, .int .i64 t16, .int .i64 t17]) (by first|rfl|simp [results, Tryz.results114, go_sem, cr0, cr1, cr2]<;>rfl) rfl ⟨rfl, (((((hu4.out.trans hu7.out).trans hu10.out).trans hu13.out).trans hu20.out).sto (Nat.le_trans ((Nat.le_trans (hu4.out.size) hu7.out.size)) lbb8.out) hs22.out)⟩

set_option maxHeartbeats 40000000 in
set_option maxRecDepth 100000 in
theorem impl_lineThrough.calls (K : Nat) (a0 : Int) (a1_0 : Int) (a1_1 : Int) (a2_0 : Int) (a2_1 : Int) (r0 : Int) (r1 : Int) (r2 : Int) (w : World)  (h : impl_lineThrough.f K a0 a1_0 a1_1 a2_0 a2_1 = some (r0, r1, r2)) :
    Calls Tryz.prog 86 #[.int .i64 a0, .agg #[.int .i64 a1_0, .int .i64 a1_1], .agg #[.int .i64 a2_0, .int .i64 a2_1]] w fun e w' => e = .returned (.agg #[.int .i64 r0, .int .i64 r1, .int .i64 r2]) ∧ Up w w' := by
 have H : (((impl_less.f K a0 a2_0 a2_1 a1_0 a1_1).bind fun (t12, t13) => ((impl_through.f K a0 a1_0 a1_1 t12 t13).bind fun (t15, t16, t17) => some (t15, t16, t17))) : Option (Int × Int × Int)) = some (r0, r1, r2) := h
 clear h
 obtain ⟨⟨t12, t13⟩,A14,H⟩:=bnd H;try dsimp only at H
 obtain ⟨⟨t15, t16, t17⟩,A18,H⟩:=bnd H;try dsimp only at H
 simp only [Option.some.injEq, Prod.mk.injEq] at H
 obtain ⟨rfl, rfl, rfl⟩ := H
 go_enter Tryz.func86, Tryz.ntmps86
 refine wp_hide (fun Qf hQf => ?_)
 refine wsr fun _ hK1=>?_
 refine stp (cs := [.int .i64 a1_0, .int .i64 a1_1]) (T := 25) ?_
 intro b2 w3 hu4 lbb2 ltb2 hb2
 simp only[nm]
 refine stp (cs := [.int .i64 a2_0, .int .i64 a2_1]) (T := 25) ?_
 intro b5 w6 hu7 lbb5 ltb5 hb5
 simp only[nm]
 refine stp (cs := [.int .i64 0, .int .i64 0, .int .i64 0]) (T := 31) ?_
 intro b8 w9 hu10 lbb8 ltb8 hb8
 simp only[nm]
 refine wln (hK1 _ _ ?_)
 refine wp_seq_k fun K11 hK11=>?_
 refine' wp_region_up 7 [Slot.det _, Slot.det _, Slot.det _, Slot.det _, Slot.det _, Slot.det (.agg #[.int .i64 t12, .int .i64 t13]), Slot.det (.agg #[.int .i64 t15, .int .i64 t16, .int .i64 t17])] (by kernel_rfl) (by kernel_rfl) ?main
 case main =>
  simp only [List.take_succ_cons, List.take_zero]
  refine wpK_ops rfl (fun w1 hu => ?_) ?_
  · clear hu
    go_simp
    first | done | rfl
  simp only[nm]
  refine wpK_ops rfl (fun w1 hu => ?_) ?_
  · have cl0 := ((hb2.up (hu7.out.trans hu10.out)).up ((Up.refl _).drew.trans hu)).cell (o := 0) rfl
    have cl1 := ((hb2.up (hu7.out.trans hu10.out)).up ((Up.refl _).drew.trans hu)).cell (o := 1) rfl
    go_simp
    first | done | rfl
  simp only[nm]
  refine wpK_ops rfl (fun w1 hu => ?_) ?_
  · clear hu
    go_simp
    first | done | rfl
  simp only[nm]
  refine wpK_ops rfl (fun w1 hu => ?_) ?_
  · have cl0 := ((hb5.up hu10.out).up ((Up.refl _).drew.trans hu)).cell (o := 0) rfl
    have cl1 := ((hb5.up hu10.out).up ((Up.refl _).drew.trans hu)).cell (o := 1) rfl
    go_simp
    first | done | rfl
  simp only[nm]
  refine wpK_ops rfl (fun w1 hu => ?_) ?_
  · have cl0 := ((hb2.up (hu7.out.trans hu10.out)).up ((Up.refl _).drew.trans hu)).cell (o := 0) rfl
    have cl1 := ((hb2.up (hu7.out.trans hu10.out)).up ((Up.refl _).drew.trans hu)).cell (o := 1) rfl
    go_simp
    first | done | rfl
  simp only[nm]
  refine wpK_ops rfl (fun w1 hu => ?_) ?_
  · have hcl := (impl_less.calls K a0 a2_0 a2_1 a1_0 a1_1 t12 t13 w1  A14.out)
    clear hu
    replace hcl := Aside0.mk hcl
    go_simp
    exact hcl.out
  simp only[nm]
  refine wpK_ops rfl (fun w1 hu => ?_) ?_
  · have hcl := (impl_through.calls K a0 a1_0 a1_1 t12 t13 t15 t16 t17 w1  A18.out)
    clear hu
    replace hcl := Aside0.mk hcl
    go_simp
    exact hcl.out
  simp only[nm]
  refine wpK_nil ?_
  intro w19 hu hap
  simp only [List.drop_succ_cons, List.drop_zero]
  replace hu := (Up.refl _).drew.trans hu
  clear hap
  have hu20 := Aside0.mk hu
  clear hu
  refine stw [.int .i64 t15, .int .i64 t16, .int .i64 t17] (hb8.up hu20.out) rfl rfl rfl rfl rfl (by kernel_rfl) rfl rfl ?_
  intro w21 hs22 hb23
  refine wln (hK11 _ _ ?_)
  refine wp_ret ?_
  refine hQf _ _ _ ?_
  have cr0 := hb23.cell (o := 0) rfl
  have cr1 := hb23.cell (o := 1) rfl
  have cr2 := hb23.cell (o := 2) rfl
  exact bodyPost_ret (v := .agg #[.int .i64 t15, .int .i64 t16, .int .i64 t17]) (by first|rfl|simp [results, Tryz.results86, go_sem, cr0, cr1, cr2]<;>rfl) rfl ⟨rfl, ((((hu4.out.trans hu7.out).trans hu10.out).trans hu20.out).sto (Nat.le_trans ((Nat.le_trans (hu4.out.size) hu7.out.size)) lbb8.out) hs22.out)⟩

set_option maxHeartbeats 40000000 in
set_option maxRecDepth 100000 in
theorem impl_linesThrough.calls (K : Nat) (a0 : Int) (a1_0 : Int) (a1_1 : Int) (r0 : List (Int × Int × Int)) (w : World)  (h : impl_linesThrough.f K a0 a1_0 a1_1 = some (r0)) :
    Calls Tryz.prog 112 #[.int .i64 a0, .agg #[.int .i64 a1_0, .int .i64 a1_1]] w fun e w' => ∃ (Ar0 : Option Addr) (cr0 : Nat), e = .returned (.slice Ar0 r0.length cr0) ∧ Own e3 31 w' w.heap.size (.slice Ar0 r0.length cr0) r0 ∧ Up w w' := by
 have H : (((impl_rest.f K a0 (wrap64 (-a1_1))).bind fun t6 => (impl_linesThrough.l0 K a0 a1_0 a1_1 K 0 ([(0, 1, t6)]))) : Option (List (Int × Int × Int))) = some (r0) := h
 clear h
 obtain ⟨t6,A7,H⟩:=bnd H;try dsimp only at H
 go_enter Tryz.func112, Tryz.ntmps112
 refine wp_hide (fun Qf hQf => ?_)
 refine wsr fun _ hK1=>?_
 refine stp (cs := [.int .i64 a1_0, .int .i64 a1_1]) (T := 25) ?_
 intro b2 w3 hu4 lbb2 ltb2 hb2
 simp only[nm]
 refine wpp fun k h=>?_;go_simp;apply h;clear h k
 refine wln (hK1 _ _ ?_)
 refine wsr fun _ hK5=>?_
 iterate 2 (refine wpp fun k h=>?_;go_simp;apply h;clear h k)
 have cl0 := hb2.cell (o := 1) rfl
 refine wpp fun k h=>?_;go_simp;apply h;clear h k
 clear cl0
 refine wpp fun k h=>?_;go_simp;apply h;clear h k
 refine stc (impl_rest.calls K a0 (wrap64 (-a1_1)) t6 w3  A7.out) ?_
 intro w8 hu9
 simp only[nm]
 refine wpp fun k h=>?_;go_simp;apply h;clear h k
 refine step_new (cs := [.int .i64 0, .int .i64 1, .int .i64 t6]) (T := 31) (f := fun b => .slice (some ⟨b, 0, none⟩) 1 1) rfl (by go_simp <;> rfl) ?_
 intro b10 w11 hu lb hb10
 simp only[nm]
 have lbb10 := Aside0.mk lb
 clear lb
 have hu12 := Aside0.mk hu
 clear hu
 refine wpp fun k h=>?_;go_simp;apply h;clear h k
 refine wln (hK5 _ _ ?_)
 refine wp_seq_k fun K13 hK13=>?_
 refine wsr fun _ hK14=>?_
 refine wpp fun k h=>?_;go_simp;apply h;clear h k
 refine wln (hK14 _ _ ?_)
 refine wp_block ?_
 have h16 : Own e3 31 w11 w8.heap.size (.slice (some ⟨b10, 0, none⟩) ([(0, 1, t6)].length) 1) [(0, 1, t6)] := Own.of_blk hb10 lbb10.out rfl (by simp) (by simp [Enc.flat, e3])
 have HL24 := Aside0.mk H
 clear H
 go_loopg [6, 5] K (fun kq v6 v5 w' => ∃ (x17 : Int) (x18 : List (Int × Int × Int)) (P19 : Option Addr) (q20 : Nat), v6 = .int .i64 x17 ∧ v5 = .slice P19 x18.length q20 ∧ Aside0 (impl_linesThrough.l0 K a0 a1_0 a1_1 kq x17 x18 = some (r0)) ∧ Aside0 (kq ≤ K) ∧ Aside0 (Up w8 w') ∧ Aside0 (w11.heap.size ≤ w'.heap.size) ∧ Own e3 31 w' w8.heap.size (.slice P19 x18.length q20) x18 ∧ Aside0 (∀ k, blk (.slice P19 x18.length q20) = some k → k ≠ b2))
 case atStart => exact ⟨0, [(0, 1, t6)], some ⟨b10, 0, none⟩, 1, (by first | rfl | simp), (by first | rfl | simp), HL24, ⟨Nat.le_refl _⟩, ⟨hu12.out⟩, ⟨Nat.le_refl _⟩, h16, ⟨(fun k hk => Ne.symm ((fun k hk => Nat.ne_of_lt (Nat.lt_of_lt_of_le (Nat.lt_of_lt_of_le ltb2.out (hu9.out.size)) ((fun k hk => Nat.le_trans (Nat.le_refl _) (h16.lt k hk).1) k hk))) k hk))⟩⟩
 case round =>
  rename_i J29 K30 hJ29 hK30
  obtain ⟨x17, x18, P19, q20, rfl, rfl, HL31, hk28, hu22, hz23, h25, hn26⟩ := hrel
  obtain ⟨w21, rfl⟩ : ∃ wo : World, wo = wr := ⟨_, rfl⟩
  obtain ⟨k27, rfl⟩ | rfl : (∃ k, gk = k + 1) ∨ gk = 0 := by rcases gk with _ | k; exact .inr rfl; exact .inl ⟨k, rfl⟩
  case inr => exact absurd HL31.out (by simp [impl_linesThrough.l0])
  have H := HL31.out
  clear HL31
  rw [impl_linesThrough.l0] at H
  refine wp_seq_k fun K32 hK32=>?_
  refine wsr fun _ hK33=>?_
  iterate 3 (refine wpp fun k h=>?_;go_simp;apply h;clear h k)
  refine wln (hK33 _ _ ?_)
  have hm35 := Aside0.mk ((hu4.out.trans hu9.out).trans hu22.out)
  by_cases c34 : (decide (x17 < a0)) = true
  rotate_left
  ·
   rw [if_neg c34] at H; replace c34 := Bool.eq_false_iff.mpr c34
   obtain rfl := Option.some.inj H
   try simp only [c34, Bool.not_true, Bool.not_false]
   refine wp_cond_false rfl ?_
   refine wp_exit ?_
   refine hK13 _ _ ?_
   refine wsr fun _ hK59=>?_
   iterate 2 (refine wpp fun k h=>?_;go_simp;apply h;clear h k)
   refine wln (hK59 _ _ ?_)
   refine wp_ret ?_
   refine hQf _ _ _ ?_
   exact bpr (v := .slice P19 x18.length q20) ⟨P19, q20, rfl, (h25.lower ((Nat.le_trans (hu4.out.size) hu9.out.size))), hm35.out⟩
  rw [if_pos c34] at H
  obtain ⟨t37,A38,H⟩:=bnd H;try dsimp only at H
  try simp only [c34, Bool.not_true, Bool.not_false]
  refine wp_cond_true rfl ?_
  refine wp_skip ?_
  refine hK32 _ _ ?_
  refine wp_seq_k fun K36 hK36=>?_
  refine wp_block ?_
  refine wp_region_lit ?_
  iterate 4 (refine wpp fun k h=>?_;go_simp;apply h;clear h k)
  have cl0 := (hb2.up (hu9.out.trans hu22.out)).cell (o := 0) rfl
  refine wpp fun k h=>?_;go_simp;apply h;clear h k
  clear cl0
  iterate 3 (refine wpp fun k h=>?_;go_simp;apply h;clear h k)
  have cl0 := (hb2.up (hu9.out.trans hu22.out)).cell (o := 1) rfl
  refine wpp fun k h=>?_;go_simp;apply h;clear h k
  clear cl0
  iterate 2 (refine wpp fun k h=>?_;go_simp;apply h;clear h k)
  refine stc (impl_rest.calls K a0 (wrap64 ((wrap64 (-a1_0)) - (wrap64 (x17 * a1_1)))) t37 w21  A38.out) ?_
  intro w39 hu40
  simp only[nm]
  refine wpp fun k h=>?_;go_simp;apply h;clear h k
  refine step_new (cs := [.int .i64 1, .int .i64 x17, .int .i64 t37]) (T := 31) (f := fun b => .slice (some ⟨b, 0, none⟩) 1 1) rfl (by go_simp <;> rfl) ?_
  intro b41 w42 hu lb hb41
  simp only[nm]
  clear lb
  have hu43 := Aside0.mk hu
  clear hu
  have hm45 := Aside0.mk (Nat.le_trans ((Nat.le_trans ((Nat.le_trans (hu12.out.size) hz23.out)) hu40.out.size)) hu43.out.size)
  have hm46 := Aside0.mk (Nat.le_trans ((Nat.le_trans ((Nat.le_trans (Nat.le_refl _) hz23.out)) hu40.out.size)) hu43.out.size)
  by_cases c44 : (decide (x18.length ≤ 1000000)) = true
  rotate_left
  ·
   rw [if_neg c44] at H; replace c44 := Bool.eq_false_iff.mpr c44
   exact absurd H (by simp)
  rw [if_pos c44] at H
  have HL58 := Aside0.mk H
  clear H
  try simp only [c44, Bool.not_true, Bool.not_false]
  have hO0 := Aside0.mk (h25.up (hu40.out.trans hu43.out))
  refine step_append e3 (z := .agg #[.int .i64 0, .int .i64 0, .int .i64 0]) (bytes := 24) (base := w8.heap.size) (xs := x18) (ys := [(1, x17, t37)]) wn _ _ rfl rfl (by kernel_rfl) rfl (by decide) rfl rfl rfl hO0.out (Rd.of_blk (E := e3) (xs := [(1, x17, t37)]) (o := 0) hb41 (by simp) (fun j u hu => by rcases j with _ | _ | _ | j <;> simp_all [Enc.flat, e3])) (hm45.out) (by have h0_ := (of_decide_eq_true (by assumption) : x18.length ≤ 1000000); (try simp only [List.length_cons, List.length_nil]); omega) ?_
  intro P48 q49 w50 h52 hg hat
  have hg53 := Aside0.mk hg
  have hat54 := Aside0.mk hat
  simp only[nm]
  have lb55 := Aside0.mk hO0.out.lt
  clear hO0 hg hat
  refine wpp fun k h=>?_;go_simp;apply h;clear h k
  refine wln (hK36 _ _ ?_)
  refine wp_region_lit ?_
  iterate 3 (refine wpp fun k h=>?_;go_simp;apply h;clear h k)
  refine wln (hK30 _ _ ?_)
  go_roundg k27
  case measure => exact Nat.lt_succ_self _
  case rel => exact ⟨wrap64 (x17 + 1), (x18 ++ [(1, x17, t37)]), P48, q49, (by first | rfl | simp), (by first | rfl | simp), HL58, ⟨by have := hk28.out; omega⟩, ⟨(((hu22.out.trans hu40.out).trans hu43.out).grow hg53.out (fun k hk => Nat.le_trans (Nat.le_refl _) ((fun k hk => (lb55.out k hk).1) k hk)))⟩, ⟨(Nat.le_trans (hm46.out) hg53.out.size)⟩, h52, ⟨(fun k hk => hat54.out.elim (fun e => hn26.out k (e.symm.trans hk)) (fun g => Nat.ne_of_gt (Nat.lt_of_lt_of_le (Nat.lt_of_lt_of_le ltb2.out ((Nat.le_trans ((Nat.le_trans ((Nat.le_trans ((Nat.le_trans (hu9.out.size) hu12.out.size)) hz23.out)) hu40.out.size)) hu43.out.size))) (g k hk))))⟩⟩

set_option maxHeartbeats 40000000 in
set_option maxRecDepth 100000 in
theorem impl_way.calls (K : Nat) (a0 : Int) (a1_0 : Int) (a1_1 : Int) (a1_2 : Int) (r0 : Int) (r1 : Int) (w : World)  (h : impl_way.f K a0 a1_0 a1_1 a1_2 = some (r0, r1)) :
    Calls Tryz.prog 138 #[.int .i64 a0, .agg #[.int .i64 a1_0, .int .i64 a1_1, .int .i64 a1_2]] w fun e w' => e = .returned (.agg #[.int .i64 r0, .int .i64 r1]) ∧ Up w w' := by
 have H : (((impl_rest.f K a0 (wrap64 (-a1_1))).bind fun t9 => some (t9, a1_0)) : Option (Int × Int)) = some (r0, r1) := h
 clear h
 obtain ⟨t9,A10,H⟩:=bnd H;try dsimp only at H
 simp only [Option.some.injEq, Prod.mk.injEq] at H
 obtain ⟨rfl, rfl⟩ := H
 go_enter Tryz.func138, Tryz.ntmps138
 refine wp_hide (fun Qf hQf => ?_)
 refine wsr fun _ hK1=>?_
 refine stp (cs := [.int .i64 a1_0, .int .i64 a1_1, .int .i64 a1_2]) (T := 31) ?_
 intro b2 w3 hu4 lbb2 ltb2 hb2
 simp only[nm]
 refine stp (cs := [.int .i64 0, .int .i64 0]) (T := 25) ?_
 intro b5 w6 hu7 lbb5 ltb5 hb5
 simp only[nm]
 refine wln (hK1 _ _ ?_)
 refine wp_seq_k fun K8 hK8=>?_
 refine' wp_region_up 8 [Slot.det _, Slot.det _, Slot.det _, Slot.det _, Slot.det (.int .i64 t9), Slot.det _, Slot.det _, Slot.det _] (by kernel_rfl) (by kernel_rfl) ?main
 case main =>
  simp only [List.take_succ_cons, List.take_zero]
  refine wpK_ops rfl (fun w1 hu => ?_) ?_
  · clear hu
    go_simp
    first | done | rfl
  simp only[nm]
  refine wpK_ops rfl (fun w1 hu => ?_) ?_
  · clear hu
    go_simp
    first | done | rfl
  simp only[nm]
  refine wpK_ops rfl (fun w1 hu => ?_) ?_
  · have cl0 := ((hb2.up hu7.out).up ((Up.refl _).drew.trans hu)).cell (o := 1) rfl
    go_simp
    first | done | rfl
  simp only[nm]
  refine wpK_ops rfl (fun w1 hu => ?_) ?_
  · clear hu
    go_simp
    first | done | rfl
  simp only[nm]
  refine wpK_ops rfl (fun w1 hu => ?_) ?_
  · have hcl := (impl_rest.calls K a0 (wrap64 (-a1_1)) t9 w1  A10.out)
    clear hu
    replace hcl := Aside0.mk hcl
    go_simp
    exact hcl.out
  simp only[nm]
  refine wpK_ops rfl (fun w1 hu => ?_) ?_
  · clear hu
    go_simp
    first | done | rfl
  simp only[nm]
  refine wpK_ops rfl (fun w1 hu => ?_) ?_
  · have cl0 := ((hb2.up hu7.out).up ((Up.refl _).drew.trans hu)).cell (o := 0) rfl
    go_simp
    first | done | rfl
  simp only[nm]
  refine wpK_ops rfl (fun w1 hu => ?_) ?_
  · clear hu
    go_simp
    first | done | rfl
  simp only[nm]
  refine wpK_nil ?_
  intro w11 hu hap
  simp only [List.drop_succ_cons, List.drop_zero]
  replace hu := (Up.refl _).drew.trans hu
  clear hap
  have hu12 := Aside0.mk hu
  clear hu
  refine stw [.int .i64 t9, .int .i64 a1_0] (hb5.up hu12.out) rfl rfl rfl rfl rfl (by kernel_rfl) rfl rfl ?_
  intro w13 hs14 hb15
  refine wln (hK8 _ _ ?_)
  refine wp_ret ?_
  refine hQf _ _ _ ?_
  have cr0 := hb15.cell (o := 0) rfl
  have cr1 := hb15.cell (o := 1) rfl
  exact bodyPost_ret (v := .agg #[.int .i64 t9, .int .i64 a1_0]) (by first|rfl|simp [results, Tryz.results138, go_sem, cr0, cr1]<;>rfl) rfl ⟨rfl, (((hu4.out.trans hu7.out).trans hu12.out).sto (Nat.le_trans (hu4.out.size) lbb5.out) hs14.out)⟩

set_option maxHeartbeats 40000000 in
set_option maxRecDepth 100000 in
theorem impl_arePerpendicular.calls (K : Nat) (a0 : Int) (a1 : Int) (a2_0 : Int) (a2_1 : Int) (a2_2 : Int) (a3_0 : Int) (a3_1 : Int) (a3_2 : Int) (r0 : Bool) (w : World)  (h : impl_arePerpendicular.f K a0 a1 a2_0 a2_1 a2_2 a3_0 a3_1 a3_2 = some (r0)) :
    Calls Tryz.prog 113 #[.int .i64 a0, .int .i64 a1, .agg #[.int .i64 a2_0, .int .i64 a2_1, .int .i64 a2_2], .agg #[.int .i64 a3_0, .int .i64 a3_1, .int .i64 a3_2]] w fun e w' => e = .returned (.bool r0) ∧ Up w w' := by
 have H : (((impl_way.f K a0 a2_0 a2_1 a2_2).bind fun (t9, t10) => ((impl_way.f K a0 a3_0 a3_1 a3_2).bind fun (t12, t13) => ((impl_product.f K a0 a1 t9 t10 t12 t13).bind fun t15 => some (t15 == 0)))) : Option (Bool)) = some (r0) := h
 clear h
 obtain ⟨⟨t9, t10⟩,A11,H⟩:=bnd H;try dsimp only at H
 obtain ⟨⟨t12, t13⟩,A14,H⟩:=bnd H;try dsimp only at H
 obtain ⟨t15,A16,H⟩:=bnd H;try dsimp only at H
 obtain rfl := Option.some.inj H
 go_enter Tryz.func113, Tryz.ntmps113
 refine wp_hide (fun Qf hQf => ?_)
 refine wsr fun _ hK1=>?_
 refine stp (cs := [.int .i64 a2_0, .int .i64 a2_1, .int .i64 a2_2]) (T := 31) ?_
 intro b2 w3 hu4 lbb2 ltb2 hb2
 simp only[nm]
 refine stp (cs := [.int .i64 a3_0, .int .i64 a3_1, .int .i64 a3_2]) (T := 31) ?_
 intro b5 w6 hu7 lbb5 ltb5 hb5
 simp only[nm]
 refine wpp fun k h=>?_;go_simp;apply h;clear h k
 refine wln (hK1 _ _ ?_)
 refine wp_seq_k fun K8 hK8=>?_
 refine' wp_region_up 10 [Slot.det _, Slot.det _, Slot.det _, Slot.det _, Slot.det (.agg #[.int .i64 t9, .int .i64 t10]), Slot.det _, Slot.det _, Slot.det (.agg #[.int .i64 t12, .int .i64 t13]), Slot.det (.int .i64 t15), Slot.det _] (by kernel_rfl) (by kernel_rfl) ?main
 case main =>
  simp only [List.take_succ_cons, List.take_zero]
  refine wpK_ops rfl (fun w1 hu => ?_) ?_
  · clear hu
    go_simp
    first | done | rfl
  simp only[nm]
  refine wpK_ops rfl (fun w1 hu => ?_) ?_
  · clear hu
    go_simp
    first | done | rfl
  simp only[nm]
  refine wpK_ops rfl (fun w1 hu => ?_) ?_
  · clear hu
    go_simp
    first | done | rfl
  simp only[nm]
  refine wpK_ops rfl (fun w1 hu => ?_) ?_
  · have cl0 := ((hb2.up hu7.out).up ((Up.refl _).drew.trans hu)).cell (o := 0) rfl
    have cl1 := ((hb2.up hu7.out).up ((Up.refl _).drew.trans hu)).cell (o := 1) rfl
    have cl2 := ((hb2.up hu7.out).up ((Up.refl _).drew.trans hu)).cell (o := 2) rfl
    go_simp
    first | done | rfl
  simp only[nm]
  refine wpK_ops rfl (fun w1 hu => ?_) ?_
  · have hcl := (impl_way.calls K a0 a2_0 a2_1 a2_2 t9 t10 w1  A11.out)
    clear hu
    replace hcl := Aside0.mk hcl
    go_simp
    exact hcl.out
  simp only[nm]
  refine wpK_ops rfl (fun w1 hu => ?_) ?_
  · clear hu
    go_simp
    first | done | rfl
  simp only[nm]
  refine wpK_ops rfl (fun w1 hu => ?_) ?_
  · have cl0 := (hb5.up ((Up.refl _).drew.trans hu)).cell (o := 0) rfl
    have cl1 := (hb5.up ((Up.refl _).drew.trans hu)).cell (o := 1) rfl
    have cl2 := (hb5.up ((Up.refl _).drew.trans hu)).cell (o := 2) rfl
    go_simp
    first | done | rfl
  simp only[nm]
  refine wpK_ops rfl (fun w1 hu => ?_) ?_
  · have hcl := (impl_way.calls K a0 a3_0 a3_1 a3_2 t12 t13 w1  A14.out)
    clear hu
    replace hcl := Aside0.mk hcl
    go_simp
    exact hcl.out
  simp only[nm]
  refine wpK_ops rfl (fun w1 hu => ?_) ?_
  · have hcl := (impl_product.calls K a0 a1 t9 t10 t12 t13 t15 w1  A16.out)
    clear hu
    replace hcl := Aside0.mk hcl
    go_simp
    exact hcl.out
  simp only[nm]
  refine wpK_ops rfl (fun w1 hu => ?_) ?_
  · clear hu
    go_simp
    first | done | rfl
  simp only[nm]
  refine wpK_nil ?_
  intro w17 hu hap
  simp only [List.drop_succ_cons, List.drop_zero]
  replace hu := (Up.refl _).drew.trans hu
  clear hap
  have hu18 := Aside0.mk hu
  clear hu
  refine wpp fun k h=>?_;go_simp;apply h;clear h k
  refine wln (hK8 _ _ ?_)
  refine wp_ret ?_
  refine hQf _ _ _ ?_
  exact bpr (v := .bool (t15 == 0)) ⟨rfl, ((hu4.out.trans hu7.out).trans hu18.out)⟩

end Go.Proofs.YtccbmdpikalpfaaGreat
