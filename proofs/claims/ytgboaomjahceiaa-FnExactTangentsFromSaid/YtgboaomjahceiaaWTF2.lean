/- The walks: each of these functions of the program computes what its plain function says: impl_linesThrough, impl_way, impl_arePerpendicular, impl_perpendicular, impl_tangent, impl_isOn, impl_TangentsFrom, laws_eqLine, laws_eqLineS, laws_markLineS, laws_heldLineS, laws_FnExactTangentsFrom. -/
import Derived.Test.YtgboaomjahceiaaProg
import Derived.Test.YtgboaomjahceiaaD1
import Derived.WalkKit
import Derived.KernelRfl
import Derived.BigQuiet
import Derived.Deep.LoopGhost
import Derived.Laws.StructEq
import Derived.Test.YtgboaomjahceiaaWTF1
namespace Go.Proofs.Ytgboaomjahceiaa
open Go Go.RowKit
attribute [local go_sem] Oper.quiet Oper.quietAt Oper.quietUpon Act.put nm1 nm2 nm3 i64_w run_max2 run_min2 mkT_getD mkT_get mkT_set lookT_cons lookT_nil
attribute [local irreducible] wpList
set_option linter.unusedVariables false
set_option linter.unusedSimpArgs false
attribute [local go_sem] eqT28
attribute [local go_sem] eqT40

set_option maxHeartbeats 40000000 in
set_option maxRecDepth 100000 in
theorem impl_linesThrough.calls (K : Nat) (a0 : Int) (a1_0 : Int) (a1_1 : Int) (r0 : List (Int × Int × Int)) (w : World)  (h : impl_linesThrough.f K a0 a1_0 a1_1 = some (r0)) :
    Calls Try.prog 57 #[.int .i64 a0, .agg #[.int .i64 a1_0, .int .i64 a1_1]] w fun e w' => ∃ (Ar0 : Option Addr) (cr0 : Nat), e = .returned (.slice Ar0 r0.length cr0) ∧ Own e3 40 w' w.heap.size (.slice Ar0 r0.length cr0) r0 ∧ Up w w' := by
 have H : (((impl_rest.f K a0 (wrap64 (-a1_1))).bind fun t6 => (impl_linesThrough.l0 K a0 a1_0 a1_1 K 0 ([(0, 1, t6)]))) : Option (List (Int × Int × Int))) = some (r0) := h
 clear h
 obtain ⟨t6,A7,H⟩:=bnd H;try dsimp only at H
 go_enter Try.func57, Try.ntmps57
 refine wp_hide (fun Qf hQf => ?_)
 refine wsr fun _ hK1=>?_
 refine stp (cs := [.int .i64 a1_0, .int .i64 a1_1]) (T := 28) ?_
 intro b2 w3 hu4 lbb2 ltb2 hb2
 simp only[nm]
 refine wpp fun k h=>?_;go_simp;apply h;clear h k
 refine wln (hK1 _ _ ?_)
 refine wsr fun _ hK5=>?_
 iterate 2 (refine wpp fun k h=>?_;go_simp;apply h;clear h k)
 have cl0 := hb2.cell (o := 1) rfl
 refine wpp fun k h=>?_;go_simp;apply h;clear h k
 clear cl0
 refine wpp fun k h=>?_;go_simp;apply h;clear h k
 refine stc (impl_rest.calls K a0 (wrap64 (-a1_1)) t6 w3  A7.out) ?_
 intro w8 hu9
 simp only[nm]
 refine wpp fun k h=>?_;go_simp;apply h;clear h k
 refine step_new (cs := [.int .i64 0, .int .i64 1, .int .i64 t6]) (T := 40) (f := fun b => .slice (some ⟨b, 0, none⟩) 1 1) rfl (by go_simp <;> rfl) ?_
 intro b10 w11 hu lb hb10
 simp only[nm]
 have lbb10 := Aside0.mk lb
 clear lb
 have hu12 := Aside0.mk hu
 clear hu
 refine wpp fun k h=>?_;go_simp;apply h;clear h k
 refine wln (hK5 _ _ ?_)
 refine wp_seq_k fun K13 hK13=>?_
 refine wsr fun _ hK14=>?_
 refine wpp fun k h=>?_;go_simp;apply h;clear h k
 refine wln (hK14 _ _ ?_)
 refine wp_block ?_
 have h16 : Own e3 40 w11 w8.heap.size (.slice (some ⟨b10, 0, none⟩) ([(0, 1, t6)].length) 1) [(0, 1, t6)] := Own.of_blk hb10 lbb10.out rfl (by simp) (by simp [Enc.flat, e3])
 have HL24 := Aside0.mk H
 clear H
 go_loopg [6, 5] K (fun kq v6 v5 w' => ∃ (x17 : Int) (x18 : List (Int × Int × Int)) (P19 : Option Addr) (q20 : Nat), v6 = .int .i64 x17 ∧ v5 = .slice P19 x18.length q20 ∧ Aside0 (impl_linesThrough.l0 K a0 a1_0 a1_1 kq x17 x18 = some (r0)) ∧ Aside0 (kq ≤ K) ∧ Aside0 (Up w8 w') ∧ Aside0 (w11.heap.size ≤ w'.heap.size) ∧ Own e3 40 w' w8.heap.size (.slice P19 x18.length q20) x18 ∧ Aside0 (∀ k, blk (.slice P19 x18.length q20) = some k → k ≠ b2))
 case atStart => exact ⟨0, [(0, 1, t6)], some ⟨b10, 0, none⟩, 1, (by first | rfl | simp), (by first | rfl | simp), HL24, ⟨Nat.le_refl _⟩, ⟨hu12.out⟩, ⟨Nat.le_refl _⟩, h16, ⟨(fun k hk => Ne.symm ((fun k hk => Nat.ne_of_lt (Nat.lt_of_lt_of_le (Nat.lt_of_lt_of_le ltb2.out (hu9.out.size)) ((fun k hk => Nat.le_trans (Nat.le_refl _) (h16.lt k hk).1) k hk))) k hk))⟩⟩
 case round =>
  rename_i J29 K30 hJ29 hK30
  obtain ⟨x17, x18, P19, q20, rfl, rfl, HL31, hk28, hu22, hz23, h25, hn26⟩ := hrel
  obtain ⟨w21, rfl⟩ : ∃ wo : World, wo = wr := ⟨_, rfl⟩
  obtain ⟨k27, rfl⟩ | rfl : (∃ k, gk = k + 1) ∨ gk = 0 := by rcases gk with _ | k; exact .inr rfl; exact .inl ⟨k, rfl⟩
  case inr => exact absurd HL31.out (by simp [impl_linesThrough.l0])
  have H := HL31.out
  clear HL31
  rw [impl_linesThrough.l0] at H
  refine wp_seq_k fun K32 hK32=>?_
  refine wsr fun _ hK33=>?_
  iterate 3 (refine wpp fun k h=>?_;go_simp;apply h;clear h k)
  refine wln (hK33 _ _ ?_)
  have hm35 := Aside0.mk ((hu4.out.trans hu9.out).trans hu22.out)
  by_cases c34 : (decide (x17 < a0)) = true
  rotate_left
  ·
   rw [if_neg c34] at H; replace c34 := Bool.eq_false_iff.mpr c34
   obtain rfl := Option.some.inj H
   try simp only [c34, Bool.not_true, Bool.not_false]
   refine wp_cond_false rfl ?_
   refine wp_exit ?_
   refine hK13 _ _ ?_
   refine wsr fun _ hK59=>?_
   iterate 2 (refine wpp fun k h=>?_;go_simp;apply h;clear h k)
   refine wln (hK59 _ _ ?_)
   refine wp_ret ?_
   refine hQf _ _ _ ?_
   exact bpr (v := .slice P19 x18.length q20) ⟨P19, q20, rfl, (h25.lower ((Nat.le_trans (hu4.out.size) hu9.out.size))), hm35.out⟩
  rw [if_pos c34] at H
  obtain ⟨t37,A38,H⟩:=bnd H;try dsimp only at H
  try simp only [c34, Bool.not_true, Bool.not_false]
  refine wp_cond_true rfl ?_
  refine wp_skip ?_
  refine hK32 _ _ ?_
  refine wp_seq_k fun K36 hK36=>?_
  refine wp_block ?_
  refine wp_region_lit ?_
  iterate 4 (refine wpp fun k h=>?_;go_simp;apply h;clear h k)
  have cl0 := (hb2.up (hu9.out.trans hu22.out)).cell (o := 0) rfl
  refine wpp fun k h=>?_;go_simp;apply h;clear h k
  clear cl0
  iterate 3 (refine wpp fun k h=>?_;go_simp;apply h;clear h k)
  have cl0 := (hb2.up (hu9.out.trans hu22.out)).cell (o := 1) rfl
  refine wpp fun k h=>?_;go_simp;apply h;clear h k
  clear cl0
  iterate 2 (refine wpp fun k h=>?_;go_simp;apply h;clear h k)
  refine stc (impl_rest.calls K a0 (wrap64 ((wrap64 (-a1_0)) - (wrap64 (x17 * a1_1)))) t37 w21  A38.out) ?_
  intro w39 hu40
  simp only[nm]
  refine wpp fun k h=>?_;go_simp;apply h;clear h k
  refine step_new (cs := [.int .i64 1, .int .i64 x17, .int .i64 t37]) (T := 40) (f := fun b => .slice (some ⟨b, 0, none⟩) 1 1) rfl (by go_simp <;> rfl) ?_
  intro b41 w42 hu lb hb41
  simp only[nm]
  clear lb
  have hu43 := Aside0.mk hu
  clear hu
  have hm45 := Aside0.mk (Nat.le_trans ((Nat.le_trans ((Nat.le_trans (hu12.out.size) hz23.out)) hu40.out.size)) hu43.out.size)
  have hm46 := Aside0.mk (Nat.le_trans ((Nat.le_trans ((Nat.le_trans (Nat.le_refl _) hz23.out)) hu40.out.size)) hu43.out.size)
  by_cases c44 : (decide (x18.length ≤ 1000000)) = true
  rotate_left
  ·
   rw [if_neg c44] at H; replace c44 := Bool.eq_false_iff.mpr c44
   exact absurd H (by simp)
  rw [if_pos c44] at H
  have HL58 := Aside0.mk H
  clear H
  try simp only [c44, Bool.not_true, Bool.not_false]
  have hO0 := Aside0.mk (h25.up (hu40.out.trans hu43.out))
  refine step_append e3 (z := .agg #[.int .i64 0, .int .i64 0, .int .i64 0]) (bytes := 24) (base := w8.heap.size) (xs := x18) (ys := [(1, x17, t37)]) wn _ _ rfl rfl (by kernel_rfl) rfl (by decide) rfl rfl rfl hO0.out (Rd.of_blk (E := e3) (xs := [(1, x17, t37)]) (o := 0) hb41 (by simp) (fun j u hu => by rcases j with _ | _ | _ | j <;> simp_all [Enc.flat, e3])) (hm45.out) (by have h0_ := (of_decide_eq_true (by assumption) : x18.length ≤ 1000000); (try simp only [List.length_cons, List.length_nil]); omega) ?_
  intro P48 q49 w50 h52 hg hat
  have hg53 := Aside0.mk hg
  have hat54 := Aside0.mk hat
  simp only[nm]
  have lb55 := Aside0.mk hO0.out.lt
  clear hO0 hg hat
  refine wpp fun k h=>?_;go_simp;apply h;clear h k
  refine wln (hK36 _ _ ?_)
  refine wp_region_lit ?_
  iterate 3 (refine wpp fun k h=>?_;go_simp;apply h;clear h k)
  refine wln (hK30 _ _ ?_)
  go_roundg k27
  case measure => exact Nat.lt_succ_self _
  case rel => exact ⟨wrap64 (x17 + 1), (x18 ++ [(1, x17, t37)]), P48, q49, (by first | rfl | simp), (by first | rfl | simp), HL58, ⟨by have := hk28.out; omega⟩, ⟨(((hu22.out.trans hu40.out).trans hu43.out).grow hg53.out (fun k hk => Nat.le_trans (Nat.le_refl _) ((fun k hk => (lb55.out k hk).1) k hk)))⟩, ⟨(Nat.le_trans (hm46.out) hg53.out.size)⟩, h52, ⟨(fun k hk => hat54.out.elim (fun e => hn26.out k (e.symm.trans hk)) (fun g => Nat.ne_of_gt (Nat.lt_of_lt_of_le (Nat.lt_of_lt_of_le ltb2.out ((Nat.le_trans ((Nat.le_trans ((Nat.le_trans ((Nat.le_trans (hu9.out.size) hu12.out.size)) hz23.out)) hu40.out.size)) hu43.out.size))) (g k hk))))⟩⟩

set_option maxHeartbeats 40000000 in
set_option maxRecDepth 100000 in
theorem impl_way.calls (K : Nat) (a0 : Int) (a1_0 : Int) (a1_1 : Int) (a1_2 : Int) (r0 : Int) (r1 : Int) (w : World)  (h : impl_way.f K a0 a1_0 a1_1 a1_2 = some (r0, r1)) :
    Calls Try.prog 83 #[.int .i64 a0, .agg #[.int .i64 a1_0, .int .i64 a1_1, .int .i64 a1_2]] w fun e w' => e = .returned (.agg #[.int .i64 r0, .int .i64 r1]) ∧ Up w w' := by
 have H : (((impl_rest.f K a0 (wrap64 (-a1_1))).bind fun t9 => some (t9, a1_0)) : Option (Int × Int)) = some (r0, r1) := h
 clear h
 obtain ⟨t9,A10,H⟩:=bnd H;try dsimp only at H
 simp only [Option.some.injEq, Prod.mk.injEq] at H
 obtain ⟨rfl, rfl⟩ := H
 go_enter Try.func83, Try.ntmps83
 refine wp_hide (fun Qf hQf => ?_)
 refine wsr fun _ hK1=>?_
 refine stp (cs := [.int .i64 a1_0, .int .i64 a1_1, .int .i64 a1_2]) (T := 40) ?_
 intro b2 w3 hu4 lbb2 ltb2 hb2
 simp only[nm]
 refine stp (cs := [.int .i64 0, .int .i64 0]) (T := 28) ?_
 intro b5 w6 hu7 lbb5 ltb5 hb5
 simp only[nm]
 refine wln (hK1 _ _ ?_)
 refine wp_seq_k fun K8 hK8=>?_
 refine' wp_region_up 8 [Slot.det _, Slot.det _, Slot.det _, Slot.det _, Slot.det (.int .i64 t9), Slot.det _, Slot.det _, Slot.det _] (by kernel_rfl) (by kernel_rfl) ?main
 case main =>
  simp only [List.take_succ_cons, List.take_zero]
  refine wpK_ops rfl (fun w1 hu => ?_) ?_
  · clear hu
    go_simp
    first | done | rfl
  simp only[nm]
  refine wpK_ops rfl (fun w1 hu => ?_) ?_
  · clear hu
    go_simp
    first | done | rfl
  simp only[nm]
  refine wpK_ops rfl (fun w1 hu => ?_) ?_
  · have cl0 := ((hb2.up hu7.out).up ((Up.refl _).drew.trans hu)).cell (o := 1) rfl
    go_simp
    first | done | rfl
  simp only[nm]
  refine wpK_ops rfl (fun w1 hu => ?_) ?_
  · clear hu
    go_simp
    first | done | rfl
  simp only[nm]
  refine wpK_ops rfl (fun w1 hu => ?_) ?_
  · have hcl := (impl_rest.calls K a0 (wrap64 (-a1_1)) t9 w1  A10.out)
    clear hu
    replace hcl := Aside0.mk hcl
    go_simp
    exact hcl.out
  simp only[nm]
  refine wpK_ops rfl (fun w1 hu => ?_) ?_
  · clear hu
    go_simp
    first | done | rfl
  simp only[nm]
  refine wpK_ops rfl (fun w1 hu => ?_) ?_
  · have cl0 := ((hb2.up hu7.out).up ((Up.refl _).drew.trans hu)).cell (o := 0) rfl
    go_simp
    first | done | rfl
  simp only[nm]
  refine wpK_ops rfl (fun w1 hu => ?_) ?_
  · clear hu
    go_simp
    first | done | rfl
  simp only[nm]
  refine wpK_nil ?_
  intro w11 hu hap
  simp only [List.drop_succ_cons, List.drop_zero]
  replace hu := (Up.refl _).drew.trans hu
  clear hap
  have hu12 := Aside0.mk hu
  clear hu
  refine stw [.int .i64 t9, .int .i64 a1_0] (hb5.up hu12.out) rfl rfl rfl rfl rfl (by kernel_rfl) rfl rfl ?_
  intro w13 hs14 hb15
  refine wln (hK8 _ _ ?_)
  refine wp_ret ?_
  refine hQf _ _ _ ?_
  have cr0 := hb15.cell (o := 0) rfl
  have cr1 := hb15.cell (o := 1) rfl
  exact bodyPost_ret (v := .agg #[.int .i64 t9, .int .i64 a1_0]) (by first|rfl|simp [results, Try.results83, go_sem, cr0, cr1]<;>rfl) rfl ⟨rfl, (((hu4.out.trans hu7.out).trans hu12.out).sto (Nat.le_trans (hu4.out.size) lbb5.out) hs14.out)⟩

set_option maxHeartbeats 40000000 in
set_option maxRecDepth 100000 in
theorem impl_arePerpendicular.calls (K : Nat) (a0 : Int) (a1 : Int) (a2_0 : Int) (a2_1 : Int) (a2_2 : Int) (a3_0 : Int) (a3_1 : Int) (a3_2 : Int) (r0 : Bool) (w : World)  (h : impl_arePerpendicular.f K a0 a1 a2_0 a2_1 a2_2 a3_0 a3_1 a3_2 = some (r0)) :
    Calls Try.prog 58 #[.int .i64 a0, .int .i64 a1, .agg #[.int .i64 a2_0, .int .i64 a2_1, .int .i64 a2_2], .agg #[.int .i64 a3_0, .int .i64 a3_1, .int .i64 a3_2]] w fun e w' => e = .returned (.bool r0) ∧ Up w w' := by
 have H : (((impl_way.f K a0 a2_0 a2_1 a2_2).bind fun (t9, t10) => ((impl_way.f K a0 a3_0 a3_1 a3_2).bind fun (t12, t13) => ((impl_product.f K a0 a1 t9 t10 t12 t13).bind fun t15 => some (t15 == 0)))) : Option (Bool)) = some (r0) := h
 clear h
 obtain ⟨⟨t9, t10⟩,A11,H⟩:=bnd H;try dsimp only at H
 obtain ⟨⟨t12, t13⟩,A14,H⟩:=bnd H;try dsimp only at H
 obtain ⟨t15,A16,H⟩:=bnd H;try dsimp only at H
 obtain rfl := Option.some.inj H
 go_enter Try.func58, Try.ntmps58
 refine wp_hide (fun Qf hQf => ?_)
 refine wsr fun _ hK1=>?_
 refine stp (cs := [.int .i64 a2_0, .int .i64 a2_1, .int .i64 a2_2]) (T := 40) ?_
 intro b2 w3 hu4 lbb2 ltb2 hb2
 simp only[nm]
 refine stp (cs := [.int .i64 a3_0, .int .i64 a3_1, .int .i64 a3_2]) (T := 40) ?_
 intro b5 w6 hu7 lbb5 ltb5 hb5
 simp only[nm]
 refine wpp fun k h=>?_;go_simp;apply h;clear h k
 refine wln (hK1 _ _ ?_)
 refine wp_seq_k fun K8 hK8=>?_
 refine' wp_region_up 10 [Slot.det _, Slot.det _, Slot.det _, Slot.det _, Slot.det (.agg #[.int .i64 t9, .int .i64 t10]), Slot.det _, Slot.det _, Slot.det (.agg #[.int .i64 t12, .int .i64 t13]), Slot.det (.int .i64 t15), Slot.det _] (by kernel_rfl) (by kernel_rfl) ?main
 case main =>
  simp only [List.take_succ_cons, List.take_zero]
  refine wpK_ops rfl (fun w1 hu => ?_) ?_
  · clear hu
    go_simp
    first | done | rfl
  simp only[nm]
  refine wpK_ops rfl (fun w1 hu => ?_) ?_
  · clear hu
    go_simp
    first | done | rfl
  simp only[nm]
  refine wpK_ops rfl (fun w1 hu => ?_) ?_
  · clear hu
    go_simp
    first | done | rfl
  simp only[nm]
  refine wpK_ops rfl (fun w1 hu => ?_) ?_
  · have cl0 := ((hb2.up hu7.out).up ((Up.refl _).drew.trans hu)).cell (o := 0) rfl
    have cl1 := ((hb2.up hu7.out).up ((Up.refl _).drew.trans hu)).cell (o := 1) rfl
    have cl2 := ((hb2.up hu7.out).up ((Up.refl _).drew.trans hu)).cell (o := 2) rfl
    go_simp
    first | done | rfl
  simp only[nm]
  refine wpK_ops rfl (fun w1 hu => ?_) ?_
  · have hcl := (impl_way.calls K a0 a2_0 a2_1 a2_2 t9 t10 w1  A11.out)
    clear hu
    replace hcl := Aside0.mk hcl
    go_simp
    exact hcl.out
  simp only[nm]
  refine wpK_ops rfl (fun w1 hu => ?_) ?_
  · clear hu
    go_simp
    first | done | rfl
  simp only[nm]
  refine wpK_ops rfl (fun w1 hu => ?_) ?_
  · have cl0 := (hb5.up ((Up.refl _).drew.trans hu)).cell (o := 0) rfl
    have cl1 := (hb5.up ((Up.refl _).drew.trans hu)).cell (o := 1) rfl
    have cl2 := (hb5.up ((Up.refl _).drew.trans hu)).cell (o := 2) rfl
    go_simp
    first | done | rfl
  simp only[nm]
  refine wpK_ops rfl (fun w1 hu => ?_) ?_
  · have hcl := (impl_way.calls K a0 a3_0 a3_1 a3_2 t12 t13 w1  A14.out)
    clear hu
    replace hcl := Aside0.mk hcl
    go_simp
    exact hcl.out
  simp only[nm]
  refine wpK_ops rfl (fun w1 hu => ?_) ?_
  · have hcl := (impl_product.calls K a0 a1 t9 t10 t12 t13 t15 w1  A16.out)
    clear hu
    replace hcl := Aside0.mk hcl
    go_simp
    exact hcl.out
  simp only[nm]
  refine wpK_ops rfl (fun w1 hu => ?_) ?_
  · clear hu
    go_simp
    first | done | rfl
  simp only[nm]
  refine wpK_nil ?_
  intro w17 hu hap
  simp only [List.drop_succ_cons, List.drop_zero]
  replace hu := (Up.refl _).drew.trans hu
  clear hap
  have hu18 := Aside0.mk hu
  clear hu
  refine wpp fun k h=>?_;go_simp;apply h;clear h k
  refine wln (hK8 _ _ ?_)
  refine wp_ret ?_
  refine hQf _ _ _ ?_
  exact bpr (v := .bool (t15 == 0)) ⟨rfl, ((hu4.out.trans hu7.out).trans hu18.out)⟩

set_option maxHeartbeats 40000000 in
set_option maxRecDepth 100000 in
theorem impl_perpendicular.calls (K : Nat) (a0 : Int) (a1 : Int) (a2_0 : Int) (a2_1 : Int) (a2_2 : Int) (a3_0 : Int) (a3_1 : Int) (r0 : Int) (r1 : Int) (r2 : Int) (w : World)  (h : impl_perpendicular.f K a0 a1 a2_0 a2_1 a2_2 a3_0 a3_1 = some (r0, r1, r2)) :
    Calls Try.prog 40 #[.int .i64 a0, .int .i64 a1, .agg #[.int .i64 a2_0, .int .i64 a2_1, .int .i64 a2_2], .agg #[.int .i64 a3_0, .int .i64 a3_1]] w fun e w' => e = .returned (.agg #[.int .i64 r0, .int .i64 r1, .int .i64 r2]) ∧ Up w w' := by
 have H : (((impl_linesThrough.f K a0 a3_0 a3_1).bind fun t13 => (impl_perpendicular.l0 K a0 a1 a2_0 a2_1 a2_2 t13 K 0 0 0 0)) : Option (Int × Int × Int)) = some (r0, r1, r2) := h
 clear h
 obtain ⟨t13,A16,H⟩:=bnd H;try dsimp only at H
 go_enter Try.func40, Try.ntmps40
 refine wp_hide (fun Qf hQf => ?_)
 refine wsr fun _ hK1=>?_
 refine stp (cs := [.int .i64 a2_0, .int .i64 a2_1, .int .i64 a2_2]) (T := 40) ?_
 intro b2 w3 hu4 lbb2 ltb2 hb2
 simp only[nm]
 refine stp (cs := [.int .i64 a3_0, .int .i64 a3_1]) (T := 28) ?_
 intro b5 w6 hu7 lbb5 ltb5 hb5
 simp only[nm]
 refine stp (cs := [.int .i64 0, .int .i64 0, .int .i64 0]) (T := 40) ?_
 intro b8 w9 hu10 lbb8 ltb8 hb8
 simp only[nm]
 refine wln (hK1 _ _ ?_)
 refine wp_seq_k fun K11 hK11=>?_
 refine wsr fun _ hK12=>?_
 refine wpp fun k h=>?_;go_simp;apply h;clear h k
 have cl0 := (hb5.up hu10.out).cell (o := 0) rfl
 have cl1 := (hb5.up hu10.out).cell (o := 1) rfl
 refine wpp fun k h=>?_;go_simp;apply h;clear h k
 clear cl0 cl1
 refine step_call wn (by go_simp <;> rfl) (impl_linesThrough.calls K a0 a3_0 a3_1 t13 w9  A16.out) ?_
 rintro e w17 ⟨P14, q15, rfl, ht13, hu⟩
 have hu18 := Aside0.mk hu
 clear hu
 refine ⟨_, rfl, ?_⟩
 simp only[nm]
 iterate 2 (refine wpp fun k h=>?_;go_simp;apply h;clear h k)
 refine wln (hK12 _ _ ?_)
 refine wp_block ?_
 have HL26 := Aside0.mk H
 clear H
 go_loopg [15] K (fun kq v15 w' => ∃ (x19 : Int) (x20 : Int) (x21 : Int) (x22 : Int), v15 = .int .i64 x19 ∧ Aside0 (impl_perpendicular.l0 K a0 a1 a2_0 a2_1 a2_2 t13 kq x19 x20 x21 x22 = some (r0, r1, r2)) ∧ Aside0 (kq ≤ K) ∧ Aside0 (Up w6 w') ∧ Aside0 (w17.heap.size ≤ w'.heap.size) ∧ Blk w' b8 [.int .i64 x20, .int .i64 x21, .int .i64 x22] 40 ∧ Own e3 40 w' w9.heap.size (.slice P14 t13.length q15) t13)
 case atStart => exact ⟨0, 0, 0, 0, (by first | rfl | simp), HL26, ⟨Nat.le_refl _⟩, ⟨(hu10.out.trans hu18.out)⟩, ⟨Nat.le_refl _⟩, (hb8.up hu18.out), ht13⟩
 case round =>
  rename_i J31 K32 hJ31 hK32
  obtain ⟨x19, x20, x21, x22, rfl, HL33, hk30, hu24, hz25, h27, h28⟩ := hrel
  obtain ⟨w23, rfl⟩ : ∃ wo : World, wo = wr := ⟨_, rfl⟩
  obtain ⟨k29, rfl⟩ | rfl : (∃ k, gk = k + 1) ∨ gk = 0 := by rcases gk with _ | k; exact .inr rfl; exact .inl ⟨k, rfl⟩
  case inr => exact absurd HL33.out (by simp [impl_perpendicular.l0])
  have H := HL33.out
  clear HL33
  rw [impl_perpendicular.l0] at H
  refine wsr fun _ hK34=>?_
  refine wpp fun k h=>?_;go_simp;apply h;clear h k
  refine wln (hK34 _ _ ?_)
  refine wp_seq_k fun K35 hK35=>?_
  have hm37 := Aside0.mk ((hu4.out.trans hu7.out).trans hu24.out)
  by_cases c36 : (decide (x19 < (t13.length : Int))) = true
  rotate_left
  ·
   rw [if_neg c36] at H; replace c36 := Bool.eq_false_iff.mpr c36
   simp only [Option.some.injEq, Prod.mk.injEq] at H
   obtain ⟨rfl, rfl, rfl⟩ := H
   try simp only [c36, Bool.not_true, Bool.not_false]
   refine wp_cond_false rfl ?_
   refine wp_exit ?_
   refine hK11 _ _ ?_
   refine wsr fun _ hK68=>?_
   refine wpp fun k h=>?_;go_simp;apply h;clear h k
   refine stw [.int .i64 0, .int .i64 0, .int .i64 0] h27 rfl rfl rfl rfl rfl (by kernel_rfl) rfl rfl ?_
   intro w69 hs70 hb71
   refine wln (hK68 _ _ ?_)
   refine wp_ret ?_
   refine hQf _ _ _ ?_
   have cr0 := hb71.cell (o := 0) rfl
   have cr1 := hb71.cell (o := 1) rfl
   have cr2 := hb71.cell (o := 2) rfl
   exact bodyPost_ret (v := .agg #[.int .i64 0, .int .i64 0, .int .i64 0]) (by first|rfl|simp [results, Try.results40, go_sem, cr0, cr1, cr2]<;>rfl) rfl ⟨rfl, (hm37.out.sto (Nat.le_trans ((Nat.le_trans (hu4.out.size) hu7.out.size)) lbb8.out) hs70.out)⟩
  rw [if_pos c36] at H
  obtain ⟨⟨t40, t41, t42⟩,A43,H⟩:=bnd H;try dsimp only at H
  obtain ⟨t54,A55,H⟩:=bnd H;try dsimp only at H
  try simp only [c36, Bool.not_true, Bool.not_false]
  refine wp_cond_true rfl ?_
  refine wp_skip ?_
  refine hK35 _ _ ?_
  refine wp_seq_k fun K38 hK38=>?_
  refine wp_block ?_
  refine wsr fun _ hK39=>?_
  refine step_index e3 (T := 40) wn rfl (by kernel_rfl) (by kernel_rfl) rfl rfl rfl h28.rd A43.out ?_
  intro ad44 hat he
  have he45 := Aside0.mk he
  have hat46 := Aside0.mk hat
  clear he hat
  simp only[nm]
  have cl0 := he45.out 0 _ rfl
  rw [addr_add0] at cl0
  have cl1 : World.cell? _ ⟨ad44.block, ad44.off + 1, none⟩ = some _ := he45.out 1 _ rfl
  have cl2 : World.cell? _ ⟨ad44.block, ad44.off + 2, none⟩ = some _ := he45.out 2 _ rfl
  refine wpp fun k h=>?_;go_simp;apply h;clear h k
  clear cl0 cl1 cl2
  refine stp (cs := [.int .i64 0, .int .i64 0, .int .i64 0]) (T := 40) ?_
  intro b47 w48 hu49 lbb47 ltb47 hb47
  simp only[nm]
  refine stw [.int .i64 t40, .int .i64 t41, .int .i64 t42] hb47 rfl rfl rfl rfl rfl (by kernel_rfl) rfl rfl ?_
  intro w50 hs51 hb52
  refine wln (hK39 _ _ ?_)
  refine wsr fun _ hK53=>?_
  iterate 2 (refine wpp fun k h=>?_;go_simp;apply h;clear h k)
  have cl0 := (hb2.up (((hu7.out.trans hu24.out).trans hu49.out).sto (Nat.le_trans ((Nat.le_trans ((Nat.le_trans ((Nat.le_trans (hu7.out.size) hu10.out.size)) hu18.out.size)) hz25.out)) lbb47.out) hs51.out)).cell (o := 0) rfl
  have cl1 := (hb2.up (((hu7.out.trans hu24.out).trans hu49.out).sto (Nat.le_trans ((Nat.le_trans ((Nat.le_trans ((Nat.le_trans (hu7.out.size) hu10.out.size)) hu18.out.size)) hz25.out)) lbb47.out) hs51.out)).cell (o := 1) rfl
  have cl2 := (hb2.up (((hu7.out.trans hu24.out).trans hu49.out).sto (Nat.le_trans ((Nat.le_trans ((Nat.le_trans ((Nat.le_trans (hu7.out.size) hu10.out.size)) hu18.out.size)) hz25.out)) lbb47.out) hs51.out)).cell (o := 2) rfl
  refine wpp fun k h=>?_;go_simp;apply h;clear h k
  clear cl0 cl1 cl2
  have cl0 := hb52.cell (o := 0) rfl
  have cl1 := hb52.cell (o := 1) rfl
  have cl2 := hb52.cell (o := 2) rfl
  refine wpp fun k h=>?_;go_simp;apply h;clear h k
  clear cl0 cl1 cl2
  refine stc (impl_arePerpendicular.calls K a0 a1 a2_0 a2_1 a2_2 t40 t41 t42 t54 w50  A55.out) ?_
  intro w56 hu57
  simp only[nm]
  refine wln (hK53 _ _ ?_)
  have hm59 := Aside0.mk ((hu49.out.sto (Nat.le_trans (Nat.le_refl _) lbb47.out) hs51.out).trans hu57.out)
  by_cases c58 : (t54) = true
  rotate_left
  ·
   rw [if_neg c58] at H; replace c58 := Bool.eq_false_iff.mpr c58
   subst c58
   have HL67 := Aside0.mk H
   clear H
   refine wp_cond_false rfl ?_
   refine wp_skip ?_
   refine hK38 _ _ ?_
   refine wp_region_lit ?_
   iterate 2 (refine wpp fun k h=>?_;go_simp;apply h;clear h k)
   refine wln (hK32 _ _ ?_)
   go_roundg k29
   case measure => exact Nat.lt_succ_self _
   case rel => exact ⟨wrap64 (x19 + 1), x20, x21, x22, (by first | rfl | simp), HL67, ⟨by have := hk30.out; omega⟩, ⟨(hu24.out.trans hm59.out)⟩, ⟨(Nat.le_trans ((Nat.le_trans (Nat.le_refl _) hz25.out)) hm59.out.size)⟩, (h27.up hm59.out), (h28.up hm59.out)⟩
  rw [if_pos c58] at H
  subst c58
  simp only [Option.some.injEq, Prod.mk.injEq] at H
  obtain ⟨rfl, rfl, rfl⟩ := H
  refine wp_cond_true rfl ?_
  refine wsr fun _ hK61=>?_
  have cl0 := (hb52.up hu57.out).cell (o := 0) rfl
  have cl1 := (hb52.up hu57.out).cell (o := 1) rfl
  have cl2 := (hb52.up hu57.out).cell (o := 2) rfl
  refine wpp fun k h=>?_;go_simp;apply h;clear h k
  clear cl0 cl1 cl2
  refine stw [.int .i64 t40, .int .i64 t41, .int .i64 t42] (h27.up hm59.out) rfl rfl rfl rfl rfl (by kernel_rfl) rfl rfl ?_
  intro w62 hs63 hb64
  refine wln (hK61 _ _ ?_)
  refine wp_ret ?_
  refine hQf _ _ _ ?_
  have cr0 := hb64.cell (o := 0) rfl
  have cr1 := hb64.cell (o := 1) rfl
  have cr2 := hb64.cell (o := 2) rfl
  exact bodyPost_ret (v := .agg #[.int .i64 t40, .int .i64 t41, .int .i64 t42]) (by first|rfl|simp [results, Try.results40, go_sem, cr0, cr1, cr2]<;>rfl) rfl ⟨rfl, ((hm37.out.trans hm59.out).sto (Nat.le_trans ((Nat.le_trans (hu4.out.size) hu7.out.size)) lbb8.out) hs63.out)⟩

set_option maxHeartbeats 40000000 in
set_option maxRecDepth 100000 in
theorem impl_tangent.calls (K : Nat) (a0 : Int) (a1 : Int) (a2_0 : Int) (a2_1 : Int) (a2_2 : Int) (a3_0 : Int) (a3_1 : Int) (r0 : Int) (r1 : Int) (r2 : Int) (w : World)  (h : impl_tangent.f K a0 a1 a2_0 a2_1 a2_2 a3_0 a3_1 = some (r0, r1, r2)) :
    Calls Try.prog 22 #[.int .i64 a0, .int .i64 a1, .agg #[.int .i64 a2_0, .int .i64 a2_1, .int .i64 a2_2], .agg #[.int .i64 a3_0, .int .i64 a3_1]] w fun e w' => e = .returned (.agg #[.int .i64 r0, .int .i64 r1, .int .i64 r2]) ∧ Up w w' := by
 have H : (((impl_lineThrough.f K a0 a2_0 a2_1 a3_0 a3_1).bind fun (t12, t13, t14) => ((impl_perpendicular.f K a0 a1 t12 t13 t14 a3_0 a3_1).bind fun (t16, t17, t18) => some (t16, t17, t18))) : Option (Int × Int × Int)) = some (r0, r1, r2) := h
 clear h
 obtain ⟨⟨t12, t13, t14⟩,A15,H⟩:=bnd H;try dsimp only at H
 obtain ⟨⟨t16, t17, t18⟩,A19,H⟩:=bnd H;try dsimp only at H
 simp only [Option.some.injEq, Prod.mk.injEq] at H
 obtain ⟨rfl, rfl, rfl⟩ := H
 go_enter Try.func22, Try.ntmps22
 refine wp_hide (fun Qf hQf => ?_)
 refine wsr fun _ hK1=>?_
 refine stp (cs := [.int .i64 a2_0, .int .i64 a2_1, .int .i64 a2_2]) (T := 30) ?_
 intro b2 w3 hu4 lbb2 ltb2 hb2
 simp only[nm]
 refine stp (cs := [.int .i64 a3_0, .int .i64 a3_1]) (T := 28) ?_
 intro b5 w6 hu7 lbb5 ltb5 hb5
 simp only[nm]
 refine stp (cs := [.int .i64 0, .int .i64 0, .int .i64 0]) (T := 40) ?_
 intro b8 w9 hu10 lbb8 ltb8 hb8
 simp only[nm]
 refine wln (hK1 _ _ ?_)
 refine wp_seq_k fun K11 hK11=>?_
 refine' wp_region_up 9 [Slot.det _, Slot.det _, Slot.det _, Slot.det _, Slot.det _, Slot.det _, Slot.det (.agg #[.int .i64 t12, .int .i64 t13, .int .i64 t14]), Slot.det _, Slot.det (.agg #[.int .i64 t16, .int .i64 t17, .int .i64 t18])] (by kernel_rfl) (by kernel_rfl) ?main
 case main =>
  simp only [List.take_succ_cons, List.take_zero]
  refine wpK_ops rfl (fun w1 hu => ?_) ?_
  · clear hu
    go_simp
    first | done | rfl
  simp only[nm]
  refine wpK_ops rfl (fun w1 hu => ?_) ?_
  · clear hu
    go_simp
    first | done | rfl
  simp only[nm]
  refine wpK_ops rfl (fun w1 hu => ?_) ?_
  · clear hu
    go_simp
    first | done | rfl
  simp only[nm]
  refine wpK_ops rfl (fun w1 hu => ?_) ?_
  · clear hu
    go_simp
    first | done | rfl
  simp only[nm]
  refine wpK_ops rfl (fun w1 hu => ?_) ?_
  · have cl0 := ((hb2.up (hu7.out.trans hu10.out)).up ((Up.refl _).drew.trans hu)).cell (o := 0) rfl
    have cl1 := ((hb2.up (hu7.out.trans hu10.out)).up ((Up.refl _).drew.trans hu)).cell (o := 1) rfl
    go_simp
    first | done | rfl
  simp only[nm]
  refine wpK_ops rfl (fun w1 hu => ?_) ?_
  · have cl0 := ((hb5.up hu10.out).up ((Up.refl _).drew.trans hu)).cell (o := 0) rfl
    have cl1 := ((hb5.up hu10.out).up ((Up.refl _).drew.trans hu)).cell (o := 1) rfl
    go_simp
    first | done | rfl
  simp only[nm]
  refine wpK_ops rfl (fun w1 hu => ?_) ?_
  · have hcl := (impl_lineThrough.calls K a0 a2_0 a2_1 a3_0 a3_1 t12 t13 t14 w1  A15.out)
    clear hu
    replace hcl := Aside0.mk hcl
    go_simp
    exact hcl.out
  simp only[nm]
  refine wpK_ops rfl (fun w1 hu => ?_) ?_
  · have cl0 := ((hb5.up hu10.out).up ((Up.refl _).drew.trans hu)).cell (o := 0) rfl
    have cl1 := ((hb5.up hu10.out).up ((Up.refl _).drew.trans hu)).cell (o := 1) rfl
    go_simp
    first | done | rfl
  simp only[nm]
  refine wpK_ops rfl (fun w1 hu => ?_) ?_
  · have hcl := (impl_perpendicular.calls K a0 a1 t12 t13 t14 a3_0 a3_1 t16 t17 t18 w1  A19.out)
    clear hu
    replace hcl := Aside0.mk hcl
    go_simp
    exact hcl.out
  simp only[nm]
  refine wpK_nil ?_
  intro w20 hu hap
  simp only [List.drop_succ_cons, List.drop_zero]
  replace hu := (Up.refl _).drew.trans hu
  clear hap
  have hu21 := Aside0.mk hu
  clear hu
  refine stw [.int .i64 t16, .int .i64 t17, .int .i64 t18] (hb8.up hu21.out) rfl rfl rfl rfl rfl (by kernel_rfl) rfl rfl ?_
  intro w22 hs23 hb24
  refine wln (hK11 _ _ ?_)
  refine wp_ret ?_
  refine hQf _ _ _ ?_
  have cr0 := hb24.cell (o := 0) rfl
  have cr1 := hb24.cell (o := 1) rfl
  have cr2 := hb24.cell (o := 2) rfl
  exact bodyPost_ret (v := .agg #[.int .i64 t16, .int .i64 t17, .int .i64 t18]) (by first|rfl|simp [results, Try.results22, go_sem, cr0, cr1, cr2]<;>rfl) rfl ⟨rfl, ((((hu4.out.trans hu7.out).trans hu10.out).trans hu21.out).sto (Nat.le_trans ((Nat.le_trans (hu4.out.size) hu7.out.size)) lbb8.out) hs23.out)⟩

set_option maxHeartbeats 40000000 in
set_option maxRecDepth 100000 in
theorem impl_isOn.calls (K : Nat) (a0 : Int) (a1_0 : Int) (a1_1 : Int) (a2_0 : Int) (a2_1 : Int) (a2_2 : Int) (r0 : Bool) (w : World)  (h : impl_isOn.f K a0 a1_0 a1_1 a2_0 a2_1 a2_2 = some (r0)) :
    Calls Try.prog 23 #[.int .i64 a0, .agg #[.int .i64 a1_0, .int .i64 a1_1], .agg #[.int .i64 a2_0, .int .i64 a2_1, .int .i64 a2_2]] w fun e w' => e = .returned (.bool r0) ∧ Up w w' := by
 have H : ((if (a0 == 0) = true then none else some ((Int.tmod (wrap64 ((wrap64 ((wrap64 (a2_0 * a1_0)) + (wrap64 (a2_1 * a1_1)))) + a2_2)) a0) == 0)) : Option (Bool)) = some (r0) := h
 clear h
 go_enter Try.func23, Try.ntmps23
 refine wp_hide (fun Qf hQf => ?_)
 refine wsr fun _ hK1=>?_
 refine stp (cs := [.int .i64 a1_0, .int .i64 a1_1]) (T := 28) ?_
 intro b2 w3 hu4 lbb2 ltb2 hb2
 simp only[nm]
 refine stp (cs := [.int .i64 a2_0, .int .i64 a2_1, .int .i64 a2_2]) (T := 40) ?_
 intro b5 w6 hu7 lbb5 ltb5 hb5
 simp only[nm]
 refine wpp fun k h=>?_;go_simp;apply h;clear h k
 refine wln (hK1 _ _ ?_)
 refine wsr fun _ hK8=>?_
 refine wpp fun k h=>?_;go_simp;apply h;clear h k
 have cl0 := hb5.cell (o := 0) rfl
 refine wpp fun k h=>?_;go_simp;apply h;clear h k
 clear cl0
 refine wpp fun k h=>?_;go_simp;apply h;clear h k
 have cl0 := (hb2.up hu7.out).cell (o := 0) rfl
 refine wpp fun k h=>?_;go_simp;apply h;clear h k
 clear cl0
 iterate 2 (refine wpp fun k h=>?_;go_simp;apply h;clear h k)
 have cl0 := hb5.cell (o := 1) rfl
 refine wpp fun k h=>?_;go_simp;apply h;clear h k
 clear cl0
 refine wpp fun k h=>?_;go_simp;apply h;clear h k
 have cl0 := (hb2.up hu7.out).cell (o := 1) rfl
 refine wpp fun k h=>?_;go_simp;apply h;clear h k
 clear cl0
 iterate 3 (refine wpp fun k h=>?_;go_simp;apply h;clear h k)
 have cl0 := hb5.cell (o := 2) rfl
 refine wpp fun k h=>?_;go_simp;apply h;clear h k
 clear cl0
 iterate 2 (refine wpp fun k h=>?_;go_simp;apply h;clear h k)
 by_cases c9 : (a0 == 0) = true
 ·
  rw [if_pos c9] at H
  have c9n : (a0 != 0) = false := by rw [bne, c9]; rfl
  exact absurd H (by simp)
 rw [if_neg c9] at H; replace c9 := Bool.eq_false_iff.mpr c9
 have c9n : (a0 != 0) = true := by rw [bne, c9]; rfl
 have c9p : ¬ a0 = 0 := fun e => by simp [e] at c9
 obtain rfl := Option.some.inj H
 try simp only [c9, c9n, Bool.not_true, Bool.not_false]
 iterate 3 (refine wpp fun k h=>?_;go_simp;apply h;clear h k)
 refine wln (hK8 _ _ ?_)
 refine wp_ret ?_
 refine hQf _ _ _ ?_
 exact bpr (v := .bool ((Int.tmod (wrap64 ((wrap64 ((wrap64 (a2_0 * a1_0)) + (wrap64 (a2_1 * a1_1)))) + a2_2)) a0) == 0)) ⟨rfl, (hu4.out.trans hu7.out)⟩

set_option maxHeartbeats 40000000 in
set_option maxRecDepth 100000 in
theorem impl_TangentsFrom.calls (K : Nat) (a0 : Int) (a1 : Int) (a2_0 : Int) (a2_1 : Int) (a2_2 : Int) (a3_0 : Int) (a3_1 : Int) (r0 : List (Int × Int × Int)) (r1 : Int) (w : World)  (h : impl_TangentsFrom.f K a0 a1 a2_0 a2_1 a2_2 a3_0 a3_1 = some (r0, r1)) :
    Calls Try.prog 7 #[.int .i64 a0, .int .i64 a1, .agg #[.int .i64 a2_0, .int .i64 a2_1, .int .i64 a2_2], .agg #[.int .i64 a3_0, .int .i64 a3_1]] w fun e w' => ∃ (Ar0 : Option Addr) (cr0 : Nat), e = .returned (.tuple #[.slice Ar0 r0.length cr0, .int .i64 r1]) ∧ Own e3 40 w' w.heap.size (.slice Ar0 r0.length cr0) r0 ∧ Up w w' := by
 have H : (((impl_asked__impl_TangentsFrom_1.f K a0 a1 a0 a2_0 a2_1 a2_2 a3_0 a3_1).bind fun t16 => (if (t16 == 0) = true then ((impl_pointsAt.f K a0 a1 a2_0 a2_1 a2_2).bind fun t40 => (impl_TangentsFrom.l0 K a0 a1 a2_0 a2_1 a2_2 a3_0 a3_1 t40 K 0 ([] : List (Int × Int × Int)) ([] : List (Int × Int × Int)))) else some ([], t16))) : Option (List (Int × Int × Int) × Int)) = some (r0, r1) := h
 clear h
 obtain ⟨t16,A17,H⟩:=bnd H;try dsimp only at H
 go_enter Try.func7, Try.ntmps7
 refine wp_hide (fun Qf hQf => ?_)
 refine wsr fun _ hK1=>?_
 refine stp (cs := [.int .i64 a0]) (T := 2) ?_
 intro b2 w3 hu4 lbb2 ltb2 hb2
 simp only[nm]
 refine stp (cs := [.int .i64 a1]) (T := 2) ?_
 intro b5 w6 hu7 lbb5 ltb5 hb5
 simp only[nm]
 refine stp (cs := [.int .i64 a2_0, .int .i64 a2_1, .int .i64 a2_2]) (T := 30) ?_
 intro b8 w9 hu10 lbb8 ltb8 hb8
 simp only[nm]
 refine stp (cs := [.int .i64 a3_0, .int .i64 a3_1]) (T := 28) ?_
 intro b11 w12 hu13 lbb11 ltb11 hb11
 simp only[nm]
 iterate 2 (refine wpp fun k h=>?_;go_simp;apply h;clear h k)
 refine wln (hK1 _ _ ?_)
 refine wp_seq_k fun K14 hK14=>?_
 refine wsr fun _ hK15=>?_
 have cl0 := (hb2.up ((hu7.out.trans hu10.out).trans hu13.out)).cell (o := 0) rfl
 refine wpp fun k h=>?_;go_simp;apply h;clear h k
 clear cl0
 refine wpp fun k h=>?_;go_simp;apply h;clear h k
 refine stc (impl_asked__impl_TangentsFrom_1.calls K a0 b5 a1 b2 a0 b8 a2_0 a2_1 a2_2 b11 a3_0 a3_1 t16 w12 (hb5.up (hu10.out.trans hu13.out)) (hb2.up ((hu7.out.trans hu10.out).trans hu13.out)) (hb8.up hu13.out) hb11 A17.out) ?_
 intro w18 hu19
 simp only[nm]
 refine wpp fun k h=>?_;go_simp;apply h;clear h k
 refine wln (hK15 _ _ ?_)
 refine wsr fun _ hK20=>?_
 iterate 2 (refine wpp fun k h=>?_;go_simp;apply h;clear h k)
 refine wln (hK20 _ _ ?_)
 have hm22 := Aside0.mk ((((hu4.out.trans hu7.out).trans hu10.out).trans hu13.out).trans hu19.out)
 have h23 := (hb2.up (((hu7.out.trans hu10.out).trans hu13.out).trans hu19.out))
 by_cases c21 : (t16 == 0) = true
 rotate_left
 ·
  rw [if_neg c21] at H; replace c21 := Bool.eq_false_iff.mpr c21
  have c21n : (t16 != 0) = true := by rw [bne, c21]; rfl
  have c21p : ¬ t16 = 0 := fun e => by simp [e] at c21
  simp only [Option.some.injEq, Prod.mk.injEq] at H
  obtain ⟨rfl, rfl⟩ := H
  try simp only [c21, c21n, Bool.not_true, Bool.not_false]
  refine wp_cond_true rfl ?_
  refine wsr fun _ hK191=>?_
  iterate 3 (refine wpp fun k h=>?_;go_simp;apply h;clear h k)
  refine wln (hK191 _ _ ?_)
  refine wp_ret ?_
  have h193 : Own e3 40 w18 w18.heap.size (.slice none ([] : List (Int × Int × Int)).length 0) [] := Own.nil
  refine hQf _ _ _ ?_
  exact bpr (v := .tuple #[.slice none 0 0, .int .i64 t16]) ⟨none, 0, rfl, (h193.lower (hm22.out.size)), hm22.out⟩
 rw [if_pos c21] at H
 have c21n : (t16 != 0) = false := by rw [bne, c21]; rfl
 obtain ⟨t40,A43,H⟩:=bnd H;try dsimp only at H
 try simp only [c21, c21n, Bool.not_true, Bool.not_false]
 refine wp_cond_false rfl ?_
 refine wp_skip ?_
 refine hK14 _ _ ?_
 refine wsr fun _ hK24=>?_
 refine step_newmap rfl (by have hmm := @run_makeMap Try.prog; go_simp <;> rfl) ?_
 intro b25 w26 hu lb hb25
 simp only[nm]
 have lbb25 := Aside0.mk lb
 have ltb25 := Aside0.mk hb25.lt
 clear lb
 have hu27 := Aside0.mk hu
 clear hu
 refine wpp fun k h=>?_;go_simp;apply h;clear h k
 refine wln (hK24 _ _ ?_)
 refine wsr fun _ hK28=>?_
 refine step_new (cs := []) (T := 40) (f := fun b => .slice (some ⟨b, 0, none⟩) 0 0) rfl (by go_simp <;> rfl) ?_
 intro b29 w30 hu lb hb29
 simp only[nm]
 have lbb29 := Aside0.mk lb
 clear lb
 have hu31 := Aside0.mk hu
 clear hu
 refine stp (cs := [.slice none 0 0]) (T := 25) ?_
 intro b32 w33 hu34 lbb32 ltb32 hb32
 simp only[nm]
 have hB0 := hb32
 have cl0 := hB0.cell (o := 0) rfl
 have fr0 := hB0.free 0
 refine step_store (b := b32) (cs' := [.slice (some ⟨b29, 0, none⟩) 0 0]) (T := 25) (W' := (w33.setCell ⟨b32, 0, none⟩ (.slice (some ⟨b29, 0, none⟩) 0 0))) rfl rfl (by go_simp <;> rfl) ((Sto.refl _ _).setCell 0 _) ((hB0).setCell 0 _) ?_
 clear hB0 cl0 fr0
 intro w35 hs hb37
 have hs36 := Aside0.mk hs
 clear hs
 refine wln (hK28 _ _ ?_)
 refine wp_seq_k fun K38 hK38=>?_
 refine wsr fun _ hK39=>?_
 have cl0 := (h23.up (((hu27.out.trans hu31.out).trans hu34.out).sto (Nat.le_trans ((Nat.le_trans (hu27.out.size) hu31.out.size)) lbb32.out) hs36.out)).cell (o := 0) rfl
 refine wpp fun k h=>?_;go_simp;apply h;clear h k
 clear cl0
 have cl0 := (hb5.up ((((((hu10.out.trans hu13.out).trans hu19.out).trans hu27.out).trans hu31.out).trans hu34.out).sto (Nat.le_trans ((Nat.le_trans ((Nat.le_trans ((Nat.le_trans ((Nat.le_trans (hu10.out.size) hu13.out.size)) hu19.out.size)) hu27.out.size)) hu31.out.size)) lbb32.out) hs36.out)).cell (o := 0) rfl
 refine wpp fun k h=>?_;go_simp;apply h;clear h k
 clear cl0
 refine wpp fun k h=>?_;go_simp;apply h;clear h k
 have cl0 := (hb8.up (((((hu13.out.trans hu19.out).trans hu27.out).trans hu31.out).trans hu34.out).sto (Nat.le_trans ((Nat.le_trans ((Nat.le_trans ((Nat.le_trans (hu13.out.size) hu19.out.size)) hu27.out.size)) hu31.out.size)) lbb32.out) hs36.out)).cell (o := 0) rfl
 have cl1 := (hb8.up (((((hu13.out.trans hu19.out).trans hu27.out).trans hu31.out).trans hu34.out).sto (Nat.le_trans ((Nat.le_trans ((Nat.le_trans ((Nat.le_trans (hu13.out.size) hu19.out.size)) hu27.out.size)) hu31.out.size)) lbb32.out) hs36.out)).cell (o := 1) rfl
 refine wpp fun k h=>?_;go_simp;apply h;clear h k
 clear cl0 cl1
 refine wpp fun k h=>?_;go_simp;apply h;clear h k
 have cl0 := (hb8.up (((((hu13.out.trans hu19.out).trans hu27.out).trans hu31.out).trans hu34.out).sto (Nat.le_trans ((Nat.le_trans ((Nat.le_trans ((Nat.le_trans (hu13.out.size) hu19.out.size)) hu27.out.size)) hu31.out.size)) lbb32.out) hs36.out)).cell (o := 2) rfl
 refine wpp fun k h=>?_;go_simp;apply h;clear h k
 clear cl0
 refine step_call wn (by go_simp <;> rfl) (impl_pointsAt.calls K a0 a1 a2_0 a2_1 a2_2 t40 w35  A43.out) ?_
 rintro e w44 ⟨P41, q42, rfl, ht40, hu⟩
 have hu45 := Aside0.mk hu
 clear hu
 refine ⟨_, rfl, ?_⟩
 simp only[nm]
 iterate 2 (refine wpp fun k h=>?_;go_simp;apply h;clear h k)
 refine wln (hK39 _ _ ?_)
 refine wp_block ?_
 have h48 : Own e3 40 w44 w26.heap.size (.slice (some ⟨b29, 0, none⟩) ([].length) 0) [] := Own.of_blk (hb29.up ((hu34.out.sto (Nat.le_trans (Nat.le_refl _) lbb32.out) hs36.out).trans hu45.out)) lbb29.out rfl (by simp) (by simp [Enc.flat, e3])
 have h49 : Own e3 40 w30 w26.heap.size (.slice (some ⟨b29, 0, none⟩) ([].length) 0) [] := Own.of_blk hb29 lbb29.out rfl (by simp) (by simp [Enc.flat, e3])
 have HL57 := Aside0.mk H
 clear H
 go_loopg [32] K (fun kq v32 w' => ∃ (x46 : Int) (x50 : List (Int × Int × Int)) (P51 : Option Addr) (q52 : Nat) (x53 : List (Int × Int × Int)), v32 = .int .i64 x46 ∧ Aside0 (impl_TangentsFrom.l0 K a0 a1 a2_0 a2_1 a2_2 a3_0 a3_1 t40 kq x46 x50 x53 = some (r0, r1)) ∧ Aside0 (kq ≤ K) ∧ Aside0 (Up w18 w') ∧ Aside0 (w44.heap.size ≤ w'.heap.size) ∧ MapOf w' b25 x53 ∧ Blk w' b32 [.slice P51 x50.length q52] 25 ∧ Own e2 28 w' w35.heap.size (.slice P41 t40.length q42) t40 ∧ Own e3 40 w' w26.heap.size (.slice P51 x50.length q52) x50 ∧ Aside0 (∀ k, blk (.slice P51 x50.length q52) = some k → k ≠ b2) ∧ Aside0 (∀ k, blk (.slice P51 x50.length q52) = some k → k ≠ b5) ∧ Aside0 (∀ k, blk (.slice P51 x50.length q52) = some k → k ≠ b8) ∧ Aside0 (∀ k, blk (.slice P51 x50.length q52) = some k → k ≠ b11) ∧ Aside0 (∀ k, blk (.slice P51 x50.length q52) = some k → k ≠ b25) ∧ Aside0 (∀ k, blk (.slice P51 x50.length q52) = some k → k ≠ b32) ∧ Aside0 (∀ k l, blk (.slice P51 x50.length q52) = some k → blk (.slice P41 t40.length q42) = some l → k ≠ l))
 case atStart => exact ⟨0, ([] : List (Int × Int × Int)), some ⟨b29, 0, none⟩, 0, ([] : List (Int × Int × Int)), (by first | rfl | simp), HL57, ⟨Nat.le_refl _⟩, ⟨((((hu27.out.trans hu31.out).trans hu34.out).sto (Nat.le_trans ((Nat.le_trans (hu27.out.size) hu31.out.size)) lbb32.out) hs36.out).trans hu45.out)⟩, ⟨Nat.le_refl _⟩, (hb25.up (((hu31.out.trans hu34.out).sto (Nat.le_trans (hu31.out.size) lbb32.out) hs36.out).trans hu45.out)), (hb37.up hu45.out), ht40, h48, ⟨(fun k hk => Ne.symm ((fun k hk => Nat.ne_of_lt (Nat.lt_of_lt_of_le (Nat.lt_of_lt_of_le ltb2.out ((Nat.le_trans ((Nat.le_trans ((Nat.le_trans ((Nat.le_trans (hu7.out.size) hu10.out.size)) hu13.out.size)) hu19.out.size)) hu27.out.size))) ((fun k hk => Nat.le_trans (Nat.le_refl _) (h49.lt k hk).1) k hk))) k hk))⟩, ⟨(fun k hk => Ne.symm ((fun k hk => Nat.ne_of_lt (Nat.lt_of_lt_of_le (Nat.lt_of_lt_of_le ltb5.out ((Nat.le_trans ((Nat.le_trans ((Nat.le_trans (hu10.out.size) hu13.out.size)) hu19.out.size)) hu27.out.size))) ((fun k hk => Nat.le_trans (Nat.le_refl _) (h49.lt k hk).1) k hk))) k hk))⟩, ⟨(fun k hk => Ne.symm ((fun k hk => Nat.ne_of_lt (Nat.lt_of_lt_of_le (Nat.lt_of_lt_of_le ltb8.out ((Nat.le_trans ((Nat.le_trans (hu13.out.size) hu19.out.size)) hu27.out.size))) ((fun k hk => Nat.le_trans (Nat.le_refl _) (h49.lt k hk).1) k hk))) k hk))⟩, ⟨(fun k hk => Ne.symm ((fun k hk => Nat.ne_of_lt (Nat.lt_of_lt_of_le (Nat.lt_of_lt_of_le ltb11.out ((Nat.le_trans (hu19.out.size) hu27.out.size))) ((fun k hk => Nat.le_trans (Nat.le_refl _) (h49.lt k hk).1) k hk))) k hk))⟩, ⟨(fun k hk => Ne.symm ((fun k hk => Nat.ne_of_lt (Nat.lt_of_lt_of_le ltb25.out ((fun k hk => Nat.le_trans (Nat.le_refl _) (h49.lt k hk).1) k hk))) k hk))⟩, ⟨(fun k hk => Nat.ne_of_lt (Nat.lt_of_lt_of_le ((fun k hk => Nat.lt_of_lt_of_le (h49.lt k hk).2 (Nat.le_refl _)) k hk) lbb32.out))⟩, ⟨(fun k l hk hl => Nat.ne_of_lt (Nat.lt_of_lt_of_le ((fun k hk => Nat.lt_of_lt_of_le (h49.lt k hk).2 ((Nat.le_trans (hu34.out.size) (Nat.le_of_eq hs36.out.size.symm)))) k hk) ((fun k hk => Nat.le_trans (Nat.le_refl _) (ht40.lt k hk).1) l hl)))⟩⟩
 case round =>
  rename_i J71 K72 hJ71 hK72
  obtain ⟨x46, x50, P51, q52, x53, rfl, HL73, hk70, hu55, hz56, h58, h59, h60, h61, hn62, hn63, hn64, hn65, hn66, hn67, hn68⟩ := hrel
  obtain ⟨w54, rfl⟩ : ∃ wo : World, wo = wr := ⟨_, rfl⟩
  obtain ⟨k69, rfl⟩ | rfl : (∃ k, gk = k + 1) ∨ gk = 0 := by rcases gk with _ | k; exact .inr rfl; exact .inl ⟨k, rfl⟩
  case inr => exact absurd HL73.out (by simp [impl_TangentsFrom.l0])
  have H := HL73.out
  clear HL73
  rw [impl_TangentsFrom.l0] at H
  refine wsr fun _ hK74=>?_
  refine wpp fun k h=>?_;go_simp;apply h;clear h k
  refine wln (hK74 _ _ ?_)
  refine wp_seq_k fun K75 hK75=>?_
  have hm77 := Aside0.mk hu55.out
  have h78 := (hb5.up (((hu10.out.trans hu13.out).trans hu19.out).trans hm77.out))
  by_cases c76 : (decide (x46 < (t40.length : Int))) = true
  rotate_left
  ·
   rw [if_neg c76] at H; replace c76 := Bool.eq_false_iff.mpr c76
   try simp only [c76, Bool.not_true, Bool.not_false]
   refine wp_cond_false rfl ?_
   refine wp_exit ?_
   refine hK38 _ _ ?_
   refine wsr fun _ hK181=>?_
   have cl0 := h59.cell (o := 0) rfl
   refine wpp fun k h=>?_;go_simp;apply h;clear h k
   clear cl0
   iterate 2 (refine wpp fun k h=>?_;go_simp;apply h;clear h k)
   by_cases c182 : (decide (x50.length ≤ 1000000)) = true
   rotate_left
   ·
    rw [if_neg c182] at H; replace c182 := Bool.eq_false_iff.mpr c182
    exact absurd H (by simp)
   rw [if_pos c182] at H
   simp only [Option.some.injEq, Prod.mk.injEq] at H
   obtain ⟨rfl, rfl⟩ := H
   try simp only [c182, Bool.not_true, Bool.not_false]
   have lb187 := Aside0.mk h61.lt
   refine step_call wn (by go_simp <;> rfl) (sort_ex h61 h59 hn67.out (of_decide_eq_true (by assumption))) ?_
   rintro e w183 ⟨rfl, h184, hl, hg⟩
   have hg186 := Aside0.mk hg
   have hl185 := hl
   clear hg hl
   have h189 := h59.grow hg186.out hn67.out
   refine ⟨_, rfl, ?_⟩
   simp only[nm]
   refine wln (hK181 _ _ ?_)
   refine wsr fun _ hK190=>?_
   have cl0 := h189.cell (o := 0) rfl
   refine wpp fun k h=>?_;go_simp;apply h;clear h k
   clear cl0
   iterate 2 (refine wpp fun k h=>?_;go_simp;apply h;clear h k)
   refine wln (hK190 _ _ ?_)
   refine wp_ret ?_
   refine hQf _ _ _ ?_
   exact bodyPost_ret (v := .tuple #[.slice P51 ((sortL x50).length) q52, .int .i64 0]) (by first|rfl|simp [results, Try.results7, go_sem, hl185.out]<;>rfl) rfl ⟨P51, q52, rfl, (h184.lower ((Nat.le_trans (hm22.out.size) hu27.out.size))), ((hm22.out.trans hm77.out).grow hg186.out (fun k hk => Nat.le_trans ((Nat.le_trans (hm22.out.size) hu27.out.size)) ((fun k hk => (lb187.out k hk).1) k hk)))⟩
  rw [if_pos c76] at H
  obtain ⟨⟨t81, t82⟩,A83,H⟩:=bnd H;try dsimp only at H
  try simp only [c76, Bool.not_true, Bool.not_false]
  refine wp_cond_true rfl ?_
  refine wp_skip ?_
  refine hK75 _ _ ?_
  refine wp_seq_k fun K79 hK79=>?_
  refine wp_block ?_
  refine wsr fun _ hK80=>?_
  refine step_index e2 (T := 28) wn rfl (by kernel_rfl) (by kernel_rfl) rfl rfl rfl h60.rd A83.out ?_
  intro ad84 hat he
  have he85 := Aside0.mk he
  have hat86 := Aside0.mk hat
  clear he hat
  simp only[nm]
  have cl0 := he85.out 0 _ rfl
  rw [addr_add0] at cl0
  have cl1 : World.cell? _ ⟨ad84.block, ad84.off + 1, none⟩ = some _ := he85.out 1 _ rfl
  refine wpp fun k h=>?_;go_simp;apply h;clear h k
  clear cl0 cl1
  refine stp (cs := [.int .i64 0, .int .i64 0]) (T := 28) ?_
  intro b87 w88 hu89 lbb87 ltb87 hb87
  simp only[nm]
  refine stw [.int .i64 t81, .int .i64 t82] hb87 rfl rfl rfl rfl rfl (by kernel_rfl) rfl rfl ?_
  intro w90 hs91 hb92
  refine wln (hK80 _ _ ?_)
  refine wp_seq_k fun K93 hK93=>?_
  refine wsr fun _ hK94=>?_
  have cl0 := hb92.cell (o := 0) rfl
  have cl1 := hb92.cell (o := 1) rfl
  refine wpp fun k h=>?_;go_simp;apply h;clear h k
  clear cl0 cl1
  refine wpp fun k h=>?_;go_simp;apply h;clear h k
  have cl0 := (hb8.up ((((hu13.out.trans hu19.out).trans hm77.out).trans hu89.out).sto (Nat.le_trans ((Nat.le_trans ((Nat.le_trans (hu13.out.size) hu19.out.size)) hm77.out.size)) lbb87.out) hs91.out)).cell (o := 0) rfl
  have cl1 := (hb8.up ((((hu13.out.trans hu19.out).trans hm77.out).trans hu89.out).sto (Nat.le_trans ((Nat.le_trans ((Nat.le_trans (hu13.out.size) hu19.out.size)) hm77.out.size)) lbb87.out) hs91.out)).cell (o := 1) rfl
  refine wpp fun k h=>?_;go_simp;apply h;clear h k
  clear cl0 cl1
  refine wpp fun k h=>?_;go_simp;apply h;clear h k
  refine wln (hK94 _ _ ?_)
  have hm99 := Aside0.mk (Nat.le_trans ((Nat.le_trans ((Nat.le_trans (Nat.le_refl _) hz56.out)) hu89.out.size)) (Nat.le_of_eq hs91.out.size.symm))
  have h100 := (h23.up ((hm77.out.trans hu89.out).sto (Nat.le_trans (hm77.out.size) lbb87.out) hs91.out))
  have h101 := (h78.up (hu89.out.sto (Nat.le_trans (Nat.le_refl _) lbb87.out) hs91.out))
  have h102 := (hb8.up ((((hu13.out.trans hu19.out).trans hm77.out).trans hu89.out).sto (Nat.le_trans ((Nat.le_trans ((Nat.le_trans (hu13.out.size) hu19.out.size)) hm77.out.size)) lbb87.out) hs91.out))
  have h103 := (hb11.up (((hu19.out.trans hm77.out).trans hu89.out).sto (Nat.le_trans ((Nat.le_trans (hu19.out.size) hm77.out.size)) lbb87.out) hs91.out))
  have h104 := (h58.up (hu89.out.sto (Nat.le_trans (Nat.le_refl _) lbb87.out) hs91.out))
  have h105 := (h59.up (hu89.out.sto (Nat.le_trans (Nat.le_refl _) lbb87.out) hs91.out))
  by_cases c95 : (t81 == a2_0 && t82 == a2_1) = true
  ·
   rw [if_pos c95] at H
   have c95n : (!t81 == a2_0 || !t82 == a2_1) = false := by simp only [← Bool.not_and, c95, Bool.not_true, Bool.not_false]
   have HL106 := Aside0.mk H
   clear H
   try simp only [c95, c95n, Bool.not_true, Bool.not_false]
   refine wp_cond_true rfl ?_
   refine wp_exit ?_
   refine hK79 _ _ ?_
   refine wp_region_lit ?_
   iterate 2 (refine wpp fun k h=>?_;go_simp;apply h;clear h k)
   refine wln (hK72 _ _ ?_)
   go_roundg k69
   case measure => exact Nat.lt_succ_self _
   case rel => exact ⟨wrap64 (x46 + 1), x50, P51, q52, x53, (by first | rfl | simp), HL106, ⟨by have := hk70.out; omega⟩, ⟨((hm77.out.trans hu89.out).sto (Nat.le_trans (hm77.out.size) lbb87.out) hs91.out)⟩, ⟨hm99.out⟩, h104, h105, (h60.up (hu89.out.sto (Nat.le_trans (Nat.le_refl _) lbb87.out) hs91.out)), (h61.up (hu89.out.sto (Nat.le_trans (Nat.le_refl _) lbb87.out) hs91.out)), ⟨hn62.out⟩, ⟨hn63.out⟩, ⟨hn64.out⟩, ⟨hn65.out⟩, ⟨hn66.out⟩, ⟨hn67.out⟩, ⟨hn68.out⟩⟩
  rw [if_neg c95] at H; replace c95 := Bool.eq_false_iff.mpr c95
  have c95n : (!t81 == a2_0 || !t82 == a2_1) = true := by simp only [← Bool.not_and, c95, Bool.not_true, Bool.not_false]
  obtain ⟨⟨t108, t109, t110⟩,A111,H⟩:=bnd H;try dsimp only at H
  obtain ⟨t121,A122,H⟩:=bnd H;try dsimp only at H
  try simp only [c95, c95n, Bool.not_true, Bool.not_false]
  refine wp_cond_false rfl ?_
  refine wp_skip ?_
  refine hK93 _ _ ?_
  refine wsr fun _ hK107=>?_
  have cl0 := h100.cell (o := 0) rfl
  refine wpp fun k h=>?_;go_simp;apply h;clear h k
  clear cl0
  have cl0 := h101.cell (o := 0) rfl
  refine wpp fun k h=>?_;go_simp;apply h;clear h k
  clear cl0
  have cl0 := h102.cell (o := 0) rfl
  have cl1 := h102.cell (o := 1) rfl
  have cl2 := h102.cell (o := 2) rfl
  refine wpp fun k h=>?_;go_simp;apply h;clear h k
  clear cl0 cl1 cl2
  have cl0 := hb92.cell (o := 0) rfl
  have cl1 := hb92.cell (o := 1) rfl
  refine wpp fun k h=>?_;go_simp;apply h;clear h k
  clear cl0 cl1
  refine stc (impl_tangent.calls K a0 a1 a2_0 a2_1 a2_2 t81 t82 t108 t109 t110 w90  A111.out) ?_
  intro w112 hu113
  simp only[nm]
  refine stp (cs := [.int .i64 0, .int .i64 0, .int .i64 0]) (T := 40) ?_
  intro b114 w115 hu116 lbb114 ltb114 hb114
  simp only[nm]
  refine stw [.int .i64 t108, .int .i64 t109, .int .i64 t110] hb114 rfl rfl rfl rfl rfl (by kernel_rfl) rfl rfl ?_
  intro w117 hs118 hb119
  refine wln (hK107 _ _ ?_)
  refine wsr fun _ hK120=>?_
  have cl0 := (h100.up ((hu113.out.trans hu116.out).sto (Nat.le_trans (hu113.out.size) lbb114.out) hs118.out)).cell (o := 0) rfl
  refine wpp fun k h=>?_;go_simp;apply h;clear h k
  clear cl0
  have cl0 := (h103.up ((hu113.out.trans hu116.out).sto (Nat.le_trans (hu113.out.size) lbb114.out) hs118.out)).cell (o := 0) rfl
  have cl1 := (h103.up ((hu113.out.trans hu116.out).sto (Nat.le_trans (hu113.out.size) lbb114.out) hs118.out)).cell (o := 1) rfl
  refine wpp fun k h=>?_;go_simp;apply h;clear h k
  clear cl0 cl1
  have cl0 := hb119.cell (o := 0) rfl
  have cl1 := hb119.cell (o := 1) rfl
  have cl2 := hb119.cell (o := 2) rfl
  refine wpp fun k h=>?_;go_simp;apply h;clear h k
  clear cl0 cl1 cl2
  refine stc (impl_isOn.calls K a0 a3_0 a3_1 t108 t109 t110 t121 w117  A122.out) ?_
  intro w123 hu124
  simp only[nm]
  refine wpp fun k h=>?_;go_simp;apply h;clear h k
  have hm126 := Aside0.mk (((hu113.out.trans hu116.out).sto (Nat.le_trans (hu113.out.size) lbb114.out) hs118.out).trans hu124.out)
  have hm127 := Aside0.mk (((hm77.out.trans hu89.out).sto (Nat.le_trans (hm77.out.size) lbb87.out) hs91.out).trans hm126.out)
  by_cases c125 : (t121) = true
  rotate_left
  ·
   rw [if_neg c125] at H; replace c125 := Bool.eq_false_iff.mpr c125
   subst c125
   have HL180 := Aside0.mk H
   clear H
   refine step_no rfl ?_
   simp only[nm]
   refine step_no rfl ?_
   simp only[nm]
   refine step_no rfl ?_
   simp only[nm]
   refine step_no rfl ?_
   simp only[nm]
   refine wpp fun k h=>?_;go_simp;apply h;clear h k
   refine wln (hK120 _ _ ?_)
   refine wp_cond_false rfl ?_
   refine wp_skip ?_
   refine hK79 _ _ ?_
   refine wp_region_lit ?_
   iterate 2 (refine wpp fun k h=>?_;go_simp;apply h;clear h k)
   refine wln (hK72 _ _ ?_)
   go_roundg k69
   case measure => exact Nat.lt_succ_self _
   case rel => exact ⟨wrap64 (x46 + 1), x50, P51, q52, x53, (by first | rfl | simp), HL180, ⟨by have := hk70.out; omega⟩, ⟨hm127.out⟩, ⟨(Nat.le_trans (hm99.out) hm126.out.size)⟩, (h104.up hm126.out), (h105.up hm126.out), (h60.up ((hu89.out.sto (Nat.le_trans (Nat.le_refl _) lbb87.out) hs91.out).trans hm126.out)), (h61.up ((hu89.out.sto (Nat.le_trans (Nat.le_refl _) lbb87.out) hs91.out).trans hm126.out)), ⟨hn62.out⟩, ⟨hn63.out⟩, ⟨hn64.out⟩, ⟨hn65.out⟩, ⟨hn66.out⟩, ⟨hn67.out⟩, ⟨hn68.out⟩⟩
  rw [if_pos c125] at H
  subst c125
  refine wpList_step fun k h=>?_;go_simp;apply h;clear h k
  have cl0 := (hb119.up hu124.out).cell (o := 0) rfl
  have cl1 := (hb119.up hu124.out).cell (o := 1) rfl
  have cl2 := (hb119.up hu124.out).cell (o := 2) rfl
  refine wpList_step fun k h=>?_;go_simp;apply h;clear h k
  clear cl0 cl1 cl2
  have hl_ := run_lookup3 (h104.up hm126.out) t108 t109 t110
  refine wpList_step fun k h=>?_;go_simp;apply h;clear h k
  clear hl_
  refine wpList_step fun k h=>?_;go_simp;apply h;clear h k
  refine wpp fun k h=>?_;go_simp;apply h;clear h k
  refine wln (hK120 _ _ ?_)
  by_cases c128 : (memL x53 (t108, t109, t110)) = true
  ·
   rw [if_pos c128] at H
   have HL129 := Aside0.mk H
   clear H
   try simp only [c128, Bool.not_true, Bool.not_false]
   refine wp_cond_false rfl ?_
   refine wp_skip ?_
   refine hK79 _ _ ?_
   refine wp_region_lit ?_
   iterate 2 (refine wpp fun k h=>?_;go_simp;apply h;clear h k)
   refine wln (hK72 _ _ ?_)
   go_roundg k69
   case measure => exact Nat.lt_succ_self _
   case rel => exact ⟨wrap64 (x46 + 1), x50, P51, q52, x53, (by first | rfl | simp), HL129, ⟨by have := hk70.out; omega⟩, ⟨hm127.out⟩, ⟨(Nat.le_trans (hm99.out) hm126.out.size)⟩, (h104.up hm126.out), (h105.up hm126.out), (h60.up ((hu89.out.sto (Nat.le_trans (Nat.le_refl _) lbb87.out) hs91.out).trans hm126.out)), (h61.up ((hu89.out.sto (Nat.le_trans (Nat.le_refl _) lbb87.out) hs91.out).trans hm126.out)), ⟨hn62.out⟩, ⟨hn63.out⟩, ⟨hn64.out⟩, ⟨hn65.out⟩, ⟨hn66.out⟩, ⟨hn67.out⟩, ⟨hn68.out⟩⟩
  rw [if_neg c128] at H; replace c128 := Bool.eq_false_iff.mpr c128
  try simp only [c128, Bool.not_true, Bool.not_false]
  refine wp_cond_true rfl ?_
  refine wsr fun _ hK130=>?_
  refine wpp fun k h=>?_;go_simp;apply h;clear h k
  have cl0 := (hb119.up hu124.out).cell (o := 0) rfl
  have cl1 := (hb119.up hu124.out).cell (o := 1) rfl
  have cl2 := (hb119.up hu124.out).cell (o := 2) rfl
  refine wpp fun k h=>?_;go_simp;apply h;clear h k
  clear cl0 cl1 cl2
  obtain ⟨w131, hr_, hs, hb133⟩ := run_update3 (h104.up hm126.out) t108 t109 t110 (by assumption)
  refine step_skip (W' := w131) rfl rfl (by go_simp) ?_
  clear hr_
  have hs132 := Aside0.mk hs
  clear hs
  have h138 := (h105.up hm126.out).sto hs132.out (Ne.symm (Nat.ne_of_lt (Nat.lt_of_lt_of_le (Nat.lt_of_lt_of_le ltb25.out (hu31.out.size)) lbb32.out)))
  have h139 := (h60.up ((hu89.out.sto (Nat.le_trans (Nat.le_refl _) lbb87.out) hs91.out).trans hm126.out)).sto hs132.out (fun k hk => Ne.symm ((fun k hk => Nat.ne_of_lt (Nat.lt_of_lt_of_le (Nat.lt_of_lt_of_le ltb25.out ((Nat.le_trans ((Nat.le_trans (hu31.out.size) hu34.out.size)) (Nat.le_of_eq hs36.out.size.symm)))) ((fun k hk => Nat.le_trans (Nat.le_refl _) (ht40.lt k hk).1) k hk))) k hk))
  have h140 := (h61.up ((hu89.out.sto (Nat.le_trans (Nat.le_refl _) lbb87.out) hs91.out).trans hm126.out)).sto hs132.out hn66.out
  have h141 := (hb119.up hu124.out).sto hs132.out (Ne.symm (Nat.ne_of_lt (Nat.lt_of_lt_of_le (Nat.lt_of_lt_of_le ltb25.out ((Nat.le_trans ((Nat.le_trans ((Nat.le_trans ((Nat.le_trans ((Nat.le_trans ((Nat.le_trans ((Nat.le_trans (hu31.out.size) hu34.out.size)) (Nat.le_of_eq hs36.out.size.symm))) hu45.out.size)) hz56.out)) hu89.out.size)) (Nat.le_of_eq hs91.out.size.symm))) hu113.out.size))) lbb114.out)))
  refine wln (hK130 _ _ ?_)
  refine wp_region_lit ?_
  have cl0 := h138.cell (o := 0) rfl
  refine wpp fun k h=>?_;go_simp;apply h;clear h k
  clear cl0
  have cl0 := h141.cell (o := 0) rfl
  have cl1 := h141.cell (o := 1) rfl
  have cl2 := h141.cell (o := 2) rfl
  refine wpp fun k h=>?_;go_simp;apply h;clear h k
  clear cl0 cl1 cl2
  refine step_new (cs := [.int .i64 t108, .int .i64 t109, .int .i64 t110]) (T := 40) (f := fun b => .slice (some ⟨b, 0, none⟩) 1 1) rfl (by go_simp <;> rfl) ?_
  intro b142 w143 hu lb hb142
  simp only[nm]
  clear lb
  have hu144 := Aside0.mk hu
  clear hu
  have hm149 := Aside0.mk (Nat.le_trans ((Nat.le_trans ((Nat.le_trans (hm99.out) hm126.out.size)) (Nat.le_of_eq hs132.out.size.symm))) hu144.out.size)
  by_cases c145 : (decide (x50.length ≤ 1000000)) = true
  rotate_left
  ·
   rw [if_neg c145] at H; replace c145 := Bool.eq_false_iff.mpr c145
   exact absurd H (by simp)
  rw [if_pos c145] at H
  have HL179 := Aside0.mk H
  clear H
  try simp only [c145, Bool.not_true, Bool.not_false]
  have hO0 := Aside0.mk (h140.up hu144.out)
  refine step_append e3 (z := .agg #[.int .i64 0, .int .i64 0, .int .i64 0]) (bytes := 24) (base := w26.heap.size) (xs := x50) (ys := [(t108, t109, t110)]) wn _ _ rfl rfl (by kernel_rfl) rfl (by decide) rfl rfl rfl hO0.out (Rd.of_blk (E := e3) (xs := [(t108, t109, t110)]) (o := 0) hb142 (by simp) (fun j u hu => by revert hu;rcases j with _ | _ | _ | j <;> simp [Enc.flat, e3])) ((Nat.le_trans ((Nat.le_trans ((Nat.le_trans ((Nat.le_trans ((Nat.le_trans ((Nat.le_trans ((Nat.le_trans ((Nat.le_trans ((Nat.le_trans (hu31.out.size) hu34.out.size)) (Nat.le_of_eq hs36.out.size.symm))) hu45.out.size)) hz56.out)) hu89.out.size)) (Nat.le_of_eq hs91.out.size.symm))) hm126.out.size)) (Nat.le_of_eq hs132.out.size.symm))) hu144.out.size)) (by have h0_ := (of_decide_eq_true (by assumption) : x50.length ≤ 1000000); (try simp only [List.length_cons, List.length_nil]); omega) ?_
  intro P150 q151 w152 h154 hg hat
  have hg155 := Aside0.mk hg
  have hat156 := Aside0.mk hat
  simp only[nm]
  have lb157 := Aside0.mk hO0.out.lt
  clear hO0 hg hat
  have h162 := (hb133.up hu144.out).grow hg155.out hn66.out
  have h163 := (h138.up hu144.out).grow hg155.out hn67.out
  have h164 := (h139.up hu144.out).grow hg155.out hn68.out
  have hB0 := h163
  have cl0 := hB0.cell (o := 0) rfl
  have fr0 := hB0.free 0
  refine step_store (b := b32) (cs' := [.slice P150 ((x50 ++ [(t108, t109, t110)]).length) q151]) (T := 25) (W' := (w152.setCell ⟨b32, 0, none⟩ (.slice P150 ((x50 ++ [(t108, t109, t110)]).length) q151))) rfl rfl (by go_simp <;> rfl) ((Sto.refl _ _).setCell 0 _) ((hB0).setCell 0 _) ?_
  clear hB0 cl0 fr0
  intro w167 hs hb169
  have hs168 := Aside0.mk hs
  clear hs
  have h174 := h162.sto hs168.out (Nat.ne_of_lt (Nat.lt_of_lt_of_le (Nat.lt_of_lt_of_le ltb25.out (hu31.out.size)) lbb32.out))
  have h175 := h164.sto hs168.out (fun k hk => Ne.symm ((fun k hk => Nat.ne_of_lt (Nat.lt_of_lt_of_le (Nat.lt_of_lt_of_le ltb32.out ((Nat.le_of_eq hs36.out.size.symm))) ((fun k hk => Nat.le_trans (Nat.le_refl _) (ht40.lt k hk).1) k hk))) k hk))
  have h178 := h154.sto hs168.out (fun k hk => hat156.out.elim (fun e => hn67.out k (e.symm.trans hk)) (fun g => Nat.ne_of_gt (Nat.lt_of_lt_of_le (Nat.lt_of_lt_of_le ltb32.out ((Nat.le_trans ((Nat.le_trans ((Nat.le_trans ((Nat.le_trans ((Nat.le_trans ((Nat.le_trans ((Nat.le_trans ((Nat.le_of_eq hs36.out.size.symm)) hu45.out.size)) hz56.out)) hu89.out.size)) (Nat.le_of_eq hs91.out.size.symm))) hm126.out.size)) (Nat.le_of_eq hs132.out.size.symm))) hu144.out.size))) (g k hk))))
  refine wln (hK79 _ _ ?_)
  refine wp_region_lit ?_
  iterate 2 (refine wpp fun k h=>?_;go_simp;apply h;clear h k)
  refine wln (hK72 _ _ ?_)
  go_roundg k69
  case measure => exact Nat.lt_succ_self _
  case rel => exact ⟨wrap64 (x46 + 1), (x50 ++ [(t108, t109, t110)]), P150, q151, (x53 ++ [(t108, t109, t110)]), (by first | rfl | simp), HL179, ⟨by have := hk70.out; omega⟩, ⟨((((hm127.out.sto (Nat.le_trans (Nat.le_refl _) lbb25.out) hs132.out).trans hu144.out).grow hg155.out (fun k hk => Nat.le_trans (hu27.out.size) ((fun k hk => (lb157.out k hk).1) k hk))).sto (Nat.le_trans ((Nat.le_trans (hu27.out.size) hu31.out.size)) lbb32.out) hs168.out)⟩, ⟨(Nat.le_trans ((Nat.le_trans (hm149.out) hg155.out.size)) (Nat.le_of_eq hs168.out.size.symm))⟩, h174, hb169, h175, h178, ⟨(fun k hk => hat156.out.elim (fun e => hn62.out k (e.symm.trans hk)) (fun g => Nat.ne_of_gt (Nat.lt_of_lt_of_le (Nat.lt_of_lt_of_le ltb2.out ((Nat.le_trans ((Nat.le_trans ((Nat.le_trans ((Nat.le_trans ((Nat.le_trans ((Nat.le_trans ((Nat.le_trans ((Nat.le_trans ((Nat.le_trans (hu7.out.size) hu10.out.size)) hu13.out.size)) hu19.out.size)) hm77.out.size)) hu89.out.size)) (Nat.le_of_eq hs91.out.size.symm))) hm126.out.size)) (Nat.le_of_eq hs132.out.size.symm))) hu144.out.size))) (g k hk))))⟩, ⟨(fun k hk => hat156.out.elim (fun e => hn63.out k (e.symm.trans hk)) (fun g => Nat.ne_of_gt (Nat.lt_of_lt_of_le (Nat.lt_of_lt_of_le ltb5.out ((Nat.le_trans ((Nat.le_trans ((Nat.le_trans ((Nat.le_trans ((Nat.le_trans ((Nat.le_trans ((Nat.le_trans ((Nat.le_trans (hu10.out.size) hu13.out.size)) hu19.out.size)) hm77.out.size)) hu89.out.size)) (Nat.le_of_eq hs91.out.size.symm))) hm126.out.size)) (Nat.le_of_eq hs132.out.size.symm))) hu144.out.size))) (g k hk))))⟩, ⟨(fun k hk => hat156.out.elim (fun e => hn64.out k (e.symm.trans hk)) (fun g => Nat.ne_of_gt (Nat.lt_of_lt_of_le (Nat.lt_of_lt_of_le ltb8.out ((Nat.le_trans ((Nat.le_trans ((Nat.le_trans ((Nat.le_trans ((Nat.le_trans ((Nat.le_trans ((Nat.le_trans (hu13.out.size) hu19.out.size)) hm77.out.size)) hu89.out.size)) (Nat.le_of_eq hs91.out.size.symm))) hm126.out.size)) (Nat.le_of_eq hs132.out.size.symm))) hu144.out.size))) (g k hk))))⟩, ⟨(fun k hk => hat156.out.elim (fun e => hn65.out k (e.symm.trans hk)) (fun g => Nat.ne_of_gt (Nat.lt_of_lt_of_le (Nat.lt_of_lt_of_le ltb11.out ((Nat.le_trans ((Nat.le_trans ((Nat.le_trans ((Nat.le_trans ((Nat.le_trans ((Nat.le_trans (hu19.out.size) hm77.out.size)) hu89.out.size)) (Nat.le_of_eq hs91.out.size.symm))) hm126.out.size)) (Nat.le_of_eq hs132.out.size.symm))) hu144.out.size))) (g k hk))))⟩, ⟨(fun k hk => hat156.out.elim (fun e => hn66.out k (e.symm.trans hk)) (fun g => Nat.ne_of_gt (Nat.lt_of_lt_of_le (Nat.lt_of_lt_of_le ltb25.out ((Nat.le_trans ((Nat.le_trans ((Nat.le_trans ((Nat.le_trans ((Nat.le_trans ((Nat.le_trans ((Nat.le_trans ((Nat.le_trans ((Nat.le_trans (hu31.out.size) hu34.out.size)) (Nat.le_of_eq hs36.out.size.symm))) hu45.out.size)) hz56.out)) hu89.out.size)) (Nat.le_of_eq hs91.out.size.symm))) hm126.out.size)) (Nat.le_of_eq hs132.out.size.symm))) hu144.out.size))) (g k hk))))⟩, ⟨(fun k hk => hat156.out.elim (fun e => hn67.out k (e.symm.trans hk)) (fun g => Nat.ne_of_gt (Nat.lt_of_lt_of_le (Nat.lt_of_lt_of_le ltb32.out ((Nat.le_trans ((Nat.le_trans ((Nat.le_trans ((Nat.le_trans ((Nat.le_trans ((Nat.le_trans ((Nat.le_trans ((Nat.le_of_eq hs36.out.size.symm)) hu45.out.size)) hz56.out)) hu89.out.size)) (Nat.le_of_eq hs91.out.size.symm))) hm126.out.size)) (Nat.le_of_eq hs132.out.size.symm))) hu144.out.size))) (g k hk))))⟩, ⟨(fun k l hk hl => hat156.out.elim (fun e => hn68.out k l (e.symm.trans hk) hl) (fun g => Nat.ne_of_gt (Nat.lt_of_lt_of_le ((fun k hk => Nat.lt_of_lt_of_le (ht40.lt k hk).2 (hm149.out)) l hl) (g k hk))))⟩⟩

set_option maxHeartbeats 40000000 in
set_option maxRecDepth 100000 in
theorem laws_eqLine.calls (K : Nat) (a0_0 : Int) (a0_1 : Int) (a0_2 : Int) (a1_0 : Int) (a1_1 : Int) (a1_2 : Int) (r0 : Bool) (w : World)  (h : laws_eqLine.f K a0_0 a0_1 a0_2 a1_0 a1_1 a1_2 = some (r0)) :
    Calls Try.prog 27 #[.agg #[.int .i64 a0_0, .int .i64 a0_1, .int .i64 a0_2], .agg #[.int .i64 a1_0, .int .i64 a1_1, .int .i64 a1_2]] w fun e w' => e = .returned (.bool r0) ∧ Up w w' := by
 have H : ((if (a0_0 == a1_0) = true then (if (a0_1 == a1_1) = true then (if (a0_2 == a1_2) = true then some true else some false) else some false) else some false) : Option (Bool)) = some (r0) := h
 clear h
 go_enter Try.func27, Try.ntmps27
 refine wp_hide (fun Qf hQf => ?_)
 refine wsr fun _ hK1=>?_
 refine stp (cs := [.int .i64 a0_0, .int .i64 a0_1, .int .i64 a0_2]) (T := 40) ?_
 intro b2 w3 hu4 lbb2 ltb2 hb2
 simp only[nm]
 refine stp (cs := [.int .i64 a1_0, .int .i64 a1_1, .int .i64 a1_2]) (T := 40) ?_
 intro b5 w6 hu7 lbb5 ltb5 hb5
 simp only[nm]
 refine wpp fun k h=>?_;go_simp;apply h;clear h k
 refine wln (hK1 _ _ ?_)
 refine wp_seq_k fun K8 hK8=>?_
 refine wsr fun _ hK9=>?_
 refine wpp fun k h=>?_;go_simp;apply h;clear h k
 refine wln (hK9 _ _ ?_)
 refine wp_block ?_
 refine wp_loop_rounds 40 ?_
 refine rounds_k (fun K10 hK10 => ?_)
 refine wp_seq_k fun K11 hK11=>?_
 refine wsr fun _ hK12=>?_
 iterate 2 (refine wpp fun k h=>?_;go_simp;apply h;clear h k)
 refine wln (hK12 _ _ ?_)
 refine wp_cond_true rfl ?_
 refine wp_skip ?_
 refine hK11 _ _ ?_
 refine wp_seq_k fun K13 hK13=>?_
 refine wp_block ?_
 refine wp_seq_k fun K14 hK14=>?_
 refine' wp_region_up 7 [Slot.det _, Slot.det _, Slot.det _, Slot.det _, Slot.det _, Slot.det _, Slot.det _] (by kernel_rfl) (by kernel_rfl) ?main
 case main =>
  simp only [List.take_succ_cons, List.take_zero]
  refine wpK_ops rfl (fun w1 hu => ?_) ?_
  · clear hu
    go_simp
    first | done | rfl
  simp only[nm]
  refine wpK_ops rfl (fun w1 hu => ?_) ?_
  · clear hu
    go_simp
    first | done | rfl
  simp only[nm]
  refine wpK_ops rfl (fun w1 hu => ?_) ?_
  · have cl0 := ((hb2.up hu7.out).up ((Up.refl _).drew.trans hu)).cell (o := 0) rfl
    go_simp
    first | done | rfl
  simp only[nm]
  refine wpK_ops rfl (fun w1 hu => ?_) ?_
  · clear hu
    go_simp
    first | done | rfl
  simp only[nm]
  refine wpK_ops rfl (fun w1 hu => ?_) ?_
  · clear hu
    go_simp
    first | done | rfl
  simp only[nm]
  refine wpK_ops rfl (fun w1 hu => ?_) ?_
  · have cl0 := (hb5.up ((Up.refl _).drew.trans hu)).cell (o := 0) rfl
    go_simp
    first | done | rfl
  simp only[nm]
  refine wpK_ops rfl (fun w1 hu => ?_) ?_
  · clear hu
    go_simp
    first | done | rfl
  simp only[nm]
  refine wpK_nil ?_
  intro w15 hu hap
  simp only [List.drop_succ_cons, List.drop_zero]
  replace hu := (Up.refl _).drew.trans hu
  clear hap
  have hu16 := Aside0.mk hu
  clear hu
  refine wln (hK14 _ _ ?_)
  have hm18 := Aside0.mk ((hu4.out.trans hu7.out).trans hu16.out)
  by_cases c17 : (a0_0 == a1_0) = true
  rotate_left
  ·
   rw [if_neg c17] at H; replace c17 := Bool.eq_false_iff.mpr c17
   have c17n : (a0_0 != a1_0) = true := by rw [bne, c17]; rfl
   have c17p : ¬ a0_0 = a1_0 := fun e => by simp [e] at c17
   obtain rfl := Option.some.inj H
   try simp only [c17, c17n, Bool.not_true, Bool.not_false]
   refine wp_cond_true rfl ?_
   refine wsr fun _ hK42=>?_
   refine wpp fun k h=>?_;go_simp;apply h;clear h k
   refine wln (hK42 _ _ ?_)
   refine wp_ret ?_
   refine hQf _ _ _ ?_
   exact bpr (v := .bool false) ⟨rfl, hm18.out⟩
  rw [if_pos c17] at H
  have c17n : (a0_0 != a1_0) = false := by rw [bne, c17]; rfl
  try simp only [c17, c17n, Bool.not_true, Bool.not_false]
  refine wp_cond_false rfl ?_
  refine wp_skip ?_
  refine hK13 _ _ ?_
  refine wp_region_lit ?_
  iterate 2 (refine wpp fun k h=>?_;go_simp;apply h;clear h k)
  try simp only [show wrap64 1 = 1 from wlit rfl]
  refine wpp fun k h=>?_;go_simp;apply h;clear h k
  refine wln (hK10 _ _ ?_)
  refine rounds_k (fun K19 hK19 => ?_)
  refine wp_seq_k fun K20 hK20=>?_
  refine wsr fun _ hK21=>?_
  iterate 2 (refine wpp fun k h=>?_;go_simp;apply h;clear h k)
  refine wln (hK21 _ _ ?_)
  refine wp_cond_true rfl ?_
  refine wp_skip ?_
  refine hK20 _ _ ?_
  refine wp_seq_k fun K22 hK22=>?_
  refine wp_block ?_
  refine wp_seq_k fun K23 hK23=>?_
  refine' wp_region_up 7 [Slot.det _, Slot.det _, Slot.det _, Slot.det _, Slot.det _, Slot.det _, Slot.det _] (by kernel_rfl) (by kernel_rfl) ?main
  case main =>
   simp only [List.take_succ_cons, List.take_zero]
   refine wpK_ops rfl (fun w1 hu => ?_) ?_
   · clear hu
     go_simp
     first | done | rfl
   simp only[nm]
   refine wpK_ops rfl (fun w1 hu => ?_) ?_
   · clear hu
     go_simp
     first | done | rfl
   simp only[nm]
   refine wpK_ops rfl (fun w1 hu => ?_) ?_
   · have cl0 := ((hb2.up (hu7.out.trans hu16.out)).up ((Up.refl _).drew.trans hu)).cell (o := 1) rfl
     go_simp
     first | done | rfl
   simp only[nm]
   refine wpK_ops rfl (fun w1 hu => ?_) ?_
   · clear hu
     go_simp
     first | done | rfl
   simp only[nm]
   refine wpK_ops rfl (fun w1 hu => ?_) ?_
   · clear hu
     go_simp
     first | done | rfl
   simp only[nm]
   refine wpK_ops rfl (fun w1 hu => ?_) ?_
   · have cl0 := ((hb5.up hu16.out).up ((Up.refl _).drew.trans hu)).cell (o := 1) rfl
     go_simp
     first | done | rfl
   simp only[nm]
   refine wpK_ops rfl (fun w1 hu => ?_) ?_
   · clear hu
     go_simp
     first | done | rfl
   simp only[nm]
   refine wpK_nil ?_
   intro w24 hu hap
   simp only [List.drop_succ_cons, List.drop_zero]
   replace hu := (Up.refl _).drew.trans hu
   clear hap
   have hu25 := Aside0.mk hu
   clear hu
   refine wln (hK23 _ _ ?_)
   by_cases c26 : (a0_1 == a1_1) = true
   rotate_left
   ·
    rw [if_neg c26] at H; replace c26 := Bool.eq_false_iff.mpr c26
    have c26n : (a0_1 != a1_1) = true := by rw [bne, c26]; rfl
    have c26p : ¬ a0_1 = a1_1 := fun e => by simp [e] at c26
    obtain rfl := Option.some.inj H
    try simp only [c26, c26n, Bool.not_true, Bool.not_false]
    refine wp_cond_true rfl ?_
    refine wsr fun _ hK41=>?_
    refine wpp fun k h=>?_;go_simp;apply h;clear h k
    refine wln (hK41 _ _ ?_)
    refine wp_ret ?_
    refine hQf _ _ _ ?_
    exact bpr (v := .bool false) ⟨rfl, (hm18.out.trans hu25.out)⟩
   rw [if_pos c26] at H
   have c26n : (a0_1 != a1_1) = false := by rw [bne, c26]; rfl
   try simp only [c26, c26n, Bool.not_true, Bool.not_false]
   refine wp_cond_false rfl ?_
   refine wp_skip ?_
   refine hK22 _ _ ?_
   refine wp_region_lit ?_
   iterate 2 (refine wpp fun k h=>?_;go_simp;apply h;clear h k)
   try simp only [show wrap64 2 = 2 from wlit rfl]
   refine wpp fun k h=>?_;go_simp;apply h;clear h k
   refine wln (hK19 _ _ ?_)
   refine rounds_k (fun K27 hK27 => ?_)
   refine wp_seq_k fun K28 hK28=>?_
   refine wsr fun _ hK29=>?_
   iterate 2 (refine wpp fun k h=>?_;go_simp;apply h;clear h k)
   refine wln (hK29 _ _ ?_)
   refine wp_cond_true rfl ?_
   refine wp_skip ?_
   refine hK28 _ _ ?_
   refine wp_seq_k fun K30 hK30=>?_
   refine wp_block ?_
   refine wp_seq_k fun K31 hK31=>?_
   refine' wp_region_up 7 [Slot.det _, Slot.det _, Slot.det _, Slot.det _, Slot.det _, Slot.det _, Slot.det _] (by kernel_rfl) (by kernel_rfl) ?main
   case main =>
    simp only [List.take_succ_cons, List.take_zero]
    refine wpK_ops rfl (fun w1 hu => ?_) ?_
    · clear hu
      go_simp
      first | done | rfl
    simp only[nm]
    refine wpK_ops rfl (fun w1 hu => ?_) ?_
    · clear hu
      go_simp
      first | done | rfl
    simp only[nm]
    refine wpK_ops rfl (fun w1 hu => ?_) ?_
    · have cl0 := ((hb2.up ((hu7.out.trans hu16.out).trans hu25.out)).up ((Up.refl _).drew.trans hu)).cell (o := 2) rfl
      go_simp
      first | done | rfl
    simp only[nm]
    refine wpK_ops rfl (fun w1 hu => ?_) ?_
    · clear hu
      go_simp
      first | done | rfl
    simp only[nm]
    refine wpK_ops rfl (fun w1 hu => ?_) ?_
    · clear hu
      go_simp
      first | done | rfl
    simp only[nm]
    refine wpK_ops rfl (fun w1 hu => ?_) ?_
    · have cl0 := ((hb5.up (hu16.out.trans hu25.out)).up ((Up.refl _).drew.trans hu)).cell (o := 2) rfl
      go_simp
      first | done | rfl
    simp only[nm]
    refine wpK_ops rfl (fun w1 hu => ?_) ?_
    · clear hu
      go_simp
      first | done | rfl
    simp only[nm]
    refine wpK_nil ?_
    intro w32 hu hap
    simp only [List.drop_succ_cons, List.drop_zero]
    replace hu := (Up.refl _).drew.trans hu
    clear hap
    have hu33 := Aside0.mk hu
    clear hu
    refine wln (hK31 _ _ ?_)
    by_cases c34 : (a0_2 == a1_2) = true
    rotate_left
    ·
     rw [if_neg c34] at H; replace c34 := Bool.eq_false_iff.mpr c34
     have c34n : (a0_2 != a1_2) = true := by rw [bne, c34]; rfl
     have c34p : ¬ a0_2 = a1_2 := fun e => by simp [e] at c34
     obtain rfl := Option.some.inj H
     try simp only [c34, c34n, Bool.not_true, Bool.not_false]
     refine wp_cond_true rfl ?_
     refine wsr fun _ hK40=>?_
     refine wpp fun k h=>?_;go_simp;apply h;clear h k
     refine wln (hK40 _ _ ?_)
     refine wp_ret ?_
     refine hQf _ _ _ ?_
     exact bpr (v := .bool false) ⟨rfl, ((hm18.out.trans hu25.out).trans hu33.out)⟩
    rw [if_pos c34] at H
    have c34n : (a0_2 != a1_2) = false := by rw [bne, c34]; rfl
    obtain rfl := Option.some.inj H
    try simp only [c34, c34n, Bool.not_true, Bool.not_false]
    refine wp_cond_false rfl ?_
    refine wp_skip ?_
    refine hK30 _ _ ?_
    refine wp_region_lit ?_
    iterate 2 (refine wpp fun k h=>?_;go_simp;apply h;clear h k)
    try simp only [show wrap64 3 = 3 from wlit rfl]
    refine wpp fun k h=>?_;go_simp;apply h;clear h k
    refine wln (hK27 _ _ ?_)
    refine rounds_k (fun K36 hK36 => ?_)
    refine wp_seq_k fun K37 hK37=>?_
    refine wsr fun _ hK38=>?_
    iterate 2 (refine wpp fun k h=>?_;go_simp;apply h;clear h k)
    refine wln (hK38 _ _ ?_)
    refine wp_cond_false rfl ?_
    refine wp_exit ?_
    refine hK8 _ _ ?_
    refine wsr fun _ hK39=>?_
    refine wpp fun k h=>?_;go_simp;apply h;clear h k
    refine wln (hK39 _ _ ?_)
    refine wp_ret ?_
    refine hQf _ _ _ ?_
    exact bpr (v := .bool true) ⟨rfl, ((hm18.out.trans hu25.out).trans hu33.out)⟩

set_option maxHeartbeats 40000000 in
set_option maxRecDepth 100000 in
theorem laws_eqLineS.calls (K : Nat) (a0_A : Option Addr) (a0_c : Nat) (a0 : List (Int × Int × Int)) (a1_A : Option Addr) (a1_c : Nat) (a1 : List (Int × Int × Int)) (r0 : Bool) (w : World) (ha0 : Rd e3 w a0_A a0) (ha1 : Rd e3 w a1_A a1) (h : laws_eqLineS.f K a0 a1 = some (r0)) :
    Calls Try.prog 8 #[.slice a0_A a0.length a0_c, .slice a1_A a1.length a1_c] w fun e w' => e = .returned (.bool r0) ∧ Up w w' := by
 have H : ((if ((a0.length : Int) == (a1.length : Int)) = true then (laws_eqLineS.l0 K a0 a1 K 0) else some false) : Option (Bool)) = some (r0) := h
 clear h
 go_enter Try.func8, Try.ntmps8
 refine wp_hide (fun Qf hQf => ?_)
 refine wsr fun _ hK1=>?_
 refine wpp fun k h=>?_;go_simp;apply h;clear h k
 refine wln (hK1 _ _ ?_)
 refine wp_seq_k fun K2 hK2=>?_
 refine wsr fun _ hK3=>?_
 iterate 5 (refine wpp fun k h=>?_;go_simp;apply h;clear h k)
 refine wln (hK3 _ _ ?_)
 by_cases c4 : ((a0.length : Int) == (a1.length : Int)) = true
 rotate_left
 ·
  rw [if_neg c4] at H; replace c4 := Bool.eq_false_iff.mpr c4
  have c4n : ((a0.length : Int) != (a1.length : Int)) = true := by rw [bne, c4]; rfl
  have c4p : ¬ (a0.length : Int) = (a1.length : Int) := fun e => by simp [e] at c4
  obtain rfl := Option.some.inj H
  try simp only [c4, c4n, Bool.not_true, Bool.not_false]
  refine wp_cond_true rfl ?_
  refine wsr fun _ hK46=>?_
  refine wpp fun k h=>?_;go_simp;apply h;clear h k
  refine wln (hK46 _ _ ?_)
  refine wp_ret ?_
  refine hQf _ _ _ ?_
  exact bpr (v := .bool false) ⟨rfl, (Up.refl _)⟩
 rw [if_pos c4] at H
 have c4n : ((a0.length : Int) != (a1.length : Int)) = false := by rw [bne, c4]; rfl
 try simp only [c4, c4n, Bool.not_true, Bool.not_false]
 refine wp_cond_false rfl ?_
 refine wp_skip ?_
 refine hK2 _ _ ?_
 refine wp_seq_k fun K5 hK5=>?_
 refine wsr fun _ hK6=>?_
 refine wpp fun k h=>?_;go_simp;apply h;clear h k
 refine wln (hK6 _ _ ?_)
 refine wp_block ?_
 have HL11 := Aside0.mk H
 clear H
 go_loopg [5] K (fun kq v5 w' => ∃ (x7 : Int), v5 = .int .i64 x7 ∧ Aside0 (laws_eqLineS.l0 K a0 a1 kq x7 = some (r0)) ∧ Aside0 (kq ≤ K) ∧ Aside0 (Up w w') ∧ Aside0 (w.heap.size ≤ w'.heap.size))
 case atStart => exact ⟨0, (by first | rfl | simp), HL11, ⟨Nat.le_refl _⟩, ⟨(Up.refl _)⟩, ⟨Nat.le_refl _⟩⟩
 case round =>
  rename_i J14 K15 hJ14 hK15
  obtain ⟨x7, rfl, HL16, hk13, hu9, hz10⟩ := hrel
  obtain ⟨w8, rfl⟩ : ∃ wo : World, wo = wr := ⟨_, rfl⟩
  obtain ⟨k12, rfl⟩ | rfl : (∃ k, gk = k + 1) ∨ gk = 0 := by rcases gk with _ | k; exact .inr rfl; exact .inl ⟨k, rfl⟩
  case inr => exact absurd HL16.out (by simp [laws_eqLineS.l0])
  have H := HL16.out
  clear HL16
  rw [laws_eqLineS.l0] at H
  refine wp_seq_k fun K17 hK17=>?_
  refine wsr fun _ hK18=>?_
  iterate 4 (refine wpp fun k h=>?_;go_simp;apply h;clear h k)
  refine wln (hK18 _ _ ?_)
  by_cases c19 : (decide (x7 < (a0.length : Int))) = true
  rotate_left
  ·
   rw [if_neg c19] at H; replace c19 := Bool.eq_false_iff.mpr c19
   obtain rfl := Option.some.inj H
   try simp only [c19, Bool.not_true, Bool.not_false]
   refine wp_cond_false rfl ?_
   refine wp_exit ?_
   refine hK5 _ _ ?_
   refine wsr fun _ hK45=>?_
   refine wpp fun k h=>?_;go_simp;apply h;clear h k
   refine wln (hK45 _ _ ?_)
   refine wp_ret ?_
   refine hQf _ _ _ ?_
   exact bpr (v := .bool true) ⟨rfl, hu9.out⟩
  rw [if_pos c19] at H
  obtain ⟨⟨t22, t23, t24⟩,A25,H⟩:=bnd H;try dsimp only at H
  obtain ⟨⟨t30, t31, t32⟩,A33,H⟩:=bnd H;try dsimp only at H
  obtain ⟨t38,A39,H⟩:=bnd H;try dsimp only at H
  try simp only [c19, Bool.not_true, Bool.not_false]
  refine wp_cond_true rfl ?_
  refine wp_skip ?_
  refine hK17 _ _ ?_
  refine wp_seq_k fun K20 hK20=>?_
  refine wp_block ?_
  refine wp_seq_k fun K21 hK21=>?_
  obtain ⟨ad26, hat, he⟩ := rd_at (ha0.up hu9.out) A25.out
  have he27 := Aside0.mk he
  have hat29 := Aside0.mk hat
  clear he hat
  obtain ⟨ad34, hat, he⟩ := rd_at (ha1.up hu9.out) A33.out
  have he35 := Aside0.mk he
  have hat37 := Aside0.mk hat
  clear he hat
  refine' wp_region_up 10 [Slot.det _, Slot.det _, Slot.det (.pointer (some ad26)), Slot.det _, Slot.det _, Slot.det _, Slot.det (.pointer (some ad34)), Slot.det _, Slot.det (.bool t38), Slot.det _] (by kernel_rfl) (by kernel_rfl) ?main
  case main =>
   simp only [List.take_succ_cons, List.take_zero]
   refine wpK_ops rfl (fun w1 hu => ?_) ?_
   · clear hu
     go_simp
     first | done | rfl
   simp only[nm]
   refine wpK_ops rfl (fun w1 hu => ?_) ?_
   · clear hu
     go_simp
     first | done | rfl
   simp only[nm]
   refine wpK_ops rfl (fun w1 hu => ?_) ?_
   · exact quiet_index e3 (T := 40) rfl (by kernel_rfl) (by kernel_rfl) rfl rfl rfl hat29.out A25.out
   simp only[nm]
   refine wpK_ops rfl (fun w1 hu => ?_) ?_
   · have cl0 := he27.out 0 _ rfl
     rw [addr_add0] at cl0
     replace cl0 := (((Up.refl _).drew.trans hu)).kept cl0
     have cl1 : World.cell? _ ⟨ad26.block, ad26.off + 1, none⟩ = some _ := he27.out 1 _ rfl
     replace cl1 := (((Up.refl _).drew.trans hu)).kept cl1
     have cl2 : World.cell? _ ⟨ad26.block, ad26.off + 2, none⟩ = some _ := he27.out 2 _ rfl
     replace cl2 := (((Up.refl _).drew.trans hu)).kept cl2
     go_simp
     first | done | rfl
   simp only[nm]
   refine wpK_ops rfl (fun w1 hu => ?_) ?_
   · clear hu
     go_simp
     first | done | rfl
   simp only[nm]
   refine wpK_ops rfl (fun w1 hu => ?_) ?_
   · clear hu
     go_simp
     first | done | rfl
   simp only[nm]
   refine wpK_ops rfl (fun w1 hu => ?_) ?_
   · exact quiet_index e3 (T := 40) rfl (by kernel_rfl) (by kernel_rfl) rfl rfl rfl hat37.out A33.out
   simp only[nm]
   refine wpK_ops rfl (fun w1 hu => ?_) ?_
   · have cl0 := he35.out 0 _ rfl
     rw [addr_add0] at cl0
     replace cl0 := (((Up.refl _).drew.trans hu)).kept cl0
     have cl1 : World.cell? _ ⟨ad34.block, ad34.off + 1, none⟩ = some _ := he35.out 1 _ rfl
     replace cl1 := (((Up.refl _).drew.trans hu)).kept cl1
     have cl2 : World.cell? _ ⟨ad34.block, ad34.off + 2, none⟩ = some _ := he35.out 2 _ rfl
     replace cl2 := (((Up.refl _).drew.trans hu)).kept cl2
     go_simp
     first | done | rfl
   simp only[nm]
   refine wpK_ops rfl (fun w1 hu => ?_) ?_
   · have hcl := (laws_eqLine.calls K t22 t23 t24 t30 t31 t32 t38 w1  A39.out)
     clear hu
     replace hcl := Aside0.mk hcl
     go_simp
     exact hcl.out
   simp only[nm]
   refine wpK_ops rfl (fun w1 hu => ?_) ?_
   · clear hu
     go_simp
     first | done | rfl
   simp only[nm]
   refine wpK_nil ?_
   intro w40 hu hap
   simp only [List.drop_succ_cons, List.drop_zero]
   replace hu := (Up.refl _).drew.trans hu
   clear hap
   have hu41 := Aside0.mk hu
   clear hu
   refine wln (hK21 _ _ ?_)
   by_cases c42 : (t38) = true
   rotate_left
   ·
    rw [if_neg c42] at H; replace c42 := Bool.eq_false_iff.mpr c42
    subst c42
    obtain rfl := Option.some.inj H
    refine wp_cond_true rfl ?_
    refine wsr fun _ hK44=>?_
    refine wpp fun k h=>?_;go_simp;apply h;clear h k
    refine wln (hK44 _ _ ?_)
    refine wp_ret ?_
    refine hQf _ _ _ ?_
    exact bpr (v := .bool false) ⟨rfl, (hu9.out.trans hu41.out)⟩
   rw [if_pos c42] at H
   subst c42
   have HL43 := Aside0.mk H
   clear H
   refine wp_cond_false rfl ?_
   refine wp_skip ?_
   refine hK20 _ _ ?_
   refine wp_region_lit ?_
   iterate 3 (refine wpp fun k h=>?_;go_simp;apply h;clear h k)
   refine wln (hK15 _ _ ?_)
   go_roundg k12
   case measure => exact Nat.lt_succ_self _
   case rel => exact ⟨wrap64 (x7 + 1), (by first | rfl | simp), HL43, ⟨by have := hk13.out; omega⟩, ⟨(hu9.out.trans hu41.out)⟩, ⟨(Nat.le_trans ((Nat.le_trans (Nat.le_refl _) hz10.out)) hu41.out.size)⟩⟩

set_option maxHeartbeats 40000000 in
set_option maxRecDepth 100000 in
theorem laws_markLineS.calls (K : Nat) (a0_A : Option Addr) (a0_c : Nat) (a0_B : Nat) (a0 : List (Int × Int × Int)) (a1 : Int) (r0 : Int) (r1 : List (Int × Int × Int)) (w : World) (ha0 : Own e3 40 w a0_B (.slice a0_A a0.length a0_c) a0) (h : laws_markLineS.f K a0 a1 = some (r0, r1)) :
    Calls Try.prog 9 #[.slice a0_A a0.length a0_c, .int .i64 a1] w fun e w' => e = .returned (.int .i64 r0) ∧ Own e3 40 w' a0_B (.slice a0_A r1.length a0_c) r1 ∧ Aside0 (a0.length = r1.length) ∧ Grow (.slice a0_A a0.length a0_c) w w' := by
 have H : ((laws_markLineS.l0 K a0 K a1 0 a0) : Option (Int × List (Int × Int × Int))) = some (r0, r1) := h
 clear h
 go_enter Try.func9, Try.ntmps9
 refine wp_hide (fun Qf hQf => ?_)
 refine wsr fun _ hK1=>?_
 refine wpp fun k h=>?_;go_simp;apply h;clear h k
 refine wln (hK1 _ _ ?_)
 refine wp_seq_k fun K2 hK2=>?_
 refine wsr fun _ hK3=>?_
 refine wpp fun k h=>?_;go_simp;apply h;clear h k
 refine wln (hK3 _ _ ?_)
 refine wp_block ?_
 have HL10 := Aside0.mk H
 clear H
 go_loopg [1, 5] K (fun kq v1 v5 w' => ∃ (x4 : Int) (x5 : Int) (x6 : List (Int × Int × Int)), v1 = .int .i64 x4 ∧ v5 = .int .i64 x5 ∧ Aside0 (laws_markLineS.l0 K a0 kq x4 x5 x6 = some (r0, r1)) ∧ Aside0 (kq ≤ K) ∧ Aside0 (Grow (.slice a0_A a0.length a0_c) w w') ∧ Aside0 (w.heap.size ≤ w'.heap.size) ∧ Own e3 40 w' a0_B (.slice a0_A x6.length a0_c) x6 ∧ Aside0 (a0.length = x6.length))
 case atStart => exact ⟨a1, 0, a0, (by first | rfl | simp), (by first | rfl | simp), HL10, ⟨Nat.le_refl _⟩, ⟨(Grow.refl (.slice a0_A a0.length a0_c) _)⟩, ⟨Nat.le_refl _⟩, ha0, ⟨rfl⟩⟩
 case round =>
  rename_i J15 K16 hJ15 hK16
  obtain ⟨x4, x5, x6, rfl, rfl, HL17, hk14, hu8, hz9, h11, hl12⟩ := hrel
  obtain ⟨w7, rfl⟩ : ∃ wo : World, wo = wr := ⟨_, rfl⟩
  obtain ⟨k13, rfl⟩ | rfl : (∃ k, gk = k + 1) ∨ gk = 0 := by rcases gk with _ | k; exact .inr rfl; exact .inl ⟨k, rfl⟩
  case inr => exact absurd HL17.out (by simp [laws_markLineS.l0])
  have H := HL17.out
  clear HL17
  rw [laws_markLineS.l0] at H
  refine wp_seq_k fun K18 hK18=>?_
  refine wsr fun _ hK19=>?_
  iterate 4 (refine wpp fun k h=>?_;go_simp;apply h;clear h k)
  refine wln (hK19 _ _ ?_)
  by_cases c20 : (decide (x5 < (a0.length : Int))) = true
  rotate_left
  ·
   rw [if_neg c20] at H; replace c20 := Bool.eq_false_iff.mpr c20
   simp only [Option.some.injEq, Prod.mk.injEq] at H
   obtain ⟨rfl, rfl⟩ := H
   try simp only [c20, Bool.not_true, Bool.not_false]
   refine wp_cond_false rfl ?_
   refine wp_exit ?_
   refine hK2 _ _ ?_
   refine wsr fun _ hK81=>?_
   iterate 2 (refine wpp fun k h=>?_;go_simp;apply h;clear h k)
   refine wln (hK81 _ _ ?_)
   refine wp_ret ?_
   refine hQf _ _ _ ?_
   exact bpr (v := .int .i64 x4) ⟨rfl, h11, ⟨hl12.out⟩, hu8.out⟩
  rw [if_pos c20] at H
  obtain ⟨⟨t28, t29, t30⟩,A31,H⟩:=bnd H;try dsimp only at H
  obtain ⟨⟨t46, t47, t48⟩,A49,H⟩:=bnd H;try dsimp only at H
  obtain ⟨⟨t64, t65, t66⟩,A67,H⟩:=bnd H;try dsimp only at H
  have HL80 := Aside0.mk H
  clear H
  try simp only [c20, Bool.not_true, Bool.not_false]
  refine wp_cond_true rfl ?_
  refine wp_skip ?_
  refine hK18 _ _ ?_
  refine wp_seq_k fun K21 hK21=>?_
  refine wp_block ?_
  refine wsr fun _ hK22=>?_
  refine wpp fun k h=>?_;go_simp;apply h;clear h k
  refine wln (hK22 _ _ ?_)
  refine wp_block ?_
  refine wp_loop_rounds 40 ?_
  refine rounds_k (fun K23 hK23 => ?_)
  refine wp_seq_k fun K24 hK24=>?_
  refine wsr fun _ hK25=>?_
  iterate 2 (refine wpp fun k h=>?_;go_simp;apply h;clear h k)
  refine wln (hK25 _ _ ?_)
  refine wp_cond_true rfl ?_
  refine wp_skip ?_
  refine hK24 _ _ ?_
  refine wp_seq_k fun K26 hK26=>?_
  refine wp_block ?_
  refine wsr fun _ hK27=>?_
  iterate 4 (refine wpp fun k h=>?_;go_simp;apply h;clear h k)
  refine step_index e3 (T := 40) wn rfl (by kernel_rfl) (by kernel_rfl) rfl hl12.out rfl h11.rd A31.out ?_
  intro ad32 hat he
  have he33 := Aside0.mk he
  have hat34 := Aside0.mk hat
  clear he hat
  simp only[nm]
  refine wpp fun k h=>?_;go_simp;apply h;clear h k
  have hO0 := Aside0.mk h11
  refine step_put e3 (T := 40) (u := .int .i64 x4) (old := (t28, t29, t30)) (new := (x4, t29, t30)) 0 rfl rfl rfl hat34.out (addr_add0 _).symm rfl rfl (by kernel_rfl) (by simp [Value.cells, Value.oneCell']) (Nat.le_of_ble_eq_true rfl) rfl hO0.out A31.out ?_
  intro w35 h37 hg
  have hg38 := Aside0.mk hg
  clear hO0 hg
  try simp only[nm]
  have hl40 : Aside0 (a0.length = (x6.set (x5).toNat (x4, t29, t30)).length) := Aside0.mk (hl12.out.trans (List.length_set ..).symm)
  refine wln (hK27 _ _ ?_)
  refine wp_region_lit ?_
  iterate 3 (refine wpp fun k h=>?_;go_simp;apply h;clear h k)
  refine wln (hK26 _ _ ?_)
  refine wp_region_lit ?_
  iterate 2 (refine wpp fun k h=>?_;go_simp;apply h;clear h k)
  try simp only [show wrap64 1 = 1 from wlit rfl]
  refine wpp fun k h=>?_;go_simp;apply h;clear h k
  refine wln (hK23 _ _ ?_)
  refine rounds_k (fun K41 hK41 => ?_)
  refine wp_seq_k fun K42 hK42=>?_
  refine wsr fun _ hK43=>?_
  iterate 2 (refine wpp fun k h=>?_;go_simp;apply h;clear h k)
  refine wln (hK43 _ _ ?_)
  refine wp_cond_true rfl ?_
  refine wp_skip ?_
  refine hK42 _ _ ?_
  refine wp_seq_k fun K44 hK44=>?_
  refine wp_block ?_
  refine wsr fun _ hK45=>?_
  iterate 4 (refine wpp fun k h=>?_;go_simp;apply h;clear h k)
  refine step_index e3 (T := 40) wn rfl (by kernel_rfl) (by kernel_rfl) rfl hl40.out rfl h37.rd A49.out ?_
  intro ad50 hat he
  have he51 := Aside0.mk he
  have hat52 := Aside0.mk hat
  clear he hat
  simp only[nm]
  refine wpp fun k h=>?_;go_simp;apply h;clear h k
  have hO0 := Aside0.mk h37
  refine step_put e3 (T := 40) (u := .int .i64 (wrap64 (x4 + 1))) (old := (t46, t47, t48)) (new := (t46, wrap64 (x4 + 1), t48)) 1 rfl rfl rfl hat52.out rfl rfl rfl (by kernel_rfl) (by simp [Value.cells, Value.oneCell']) (Nat.le_of_ble_eq_true rfl) rfl hO0.out A49.out ?_
  intro w53 h55 hg
  have hg56 := Aside0.mk hg
  clear hO0 hg
  try simp only[nm]
  have hl58 : Aside0 (a0.length = ((x6.set (x5).toNat (x4, t29, t30)).set (x5).toNat (t46, wrap64 (x4 + 1), t48)).length) := Aside0.mk (hl40.out.trans (List.length_set ..).symm)
  refine wln (hK45 _ _ ?_)
  refine wp_region_lit ?_
  iterate 3 (refine wpp fun k h=>?_;go_simp;apply h;clear h k)
  refine wln (hK44 _ _ ?_)
  refine wp_region_lit ?_
  iterate 2 (refine wpp fun k h=>?_;go_simp;apply h;clear h k)
  try simp only [show wrap64 2 = 2 from wlit rfl]
  refine wpp fun k h=>?_;go_simp;apply h;clear h k
  refine wln (hK41 _ _ ?_)
  refine rounds_k (fun K59 hK59 => ?_)
  refine wp_seq_k fun K60 hK60=>?_
  refine wsr fun _ hK61=>?_
  iterate 2 (refine wpp fun k h=>?_;go_simp;apply h;clear h k)
  refine wln (hK61 _ _ ?_)
  refine wp_cond_true rfl ?_
  refine wp_skip ?_
  refine hK60 _ _ ?_
  refine wp_seq_k fun K62 hK62=>?_
  refine wp_block ?_
  refine wsr fun _ hK63=>?_
  iterate 4 (refine wpp fun k h=>?_;go_simp;apply h;clear h k)
  refine step_index e3 (T := 40) wn rfl (by kernel_rfl) (by kernel_rfl) rfl hl58.out rfl h55.rd A67.out ?_
  intro ad68 hat he
  have he69 := Aside0.mk he
  have hat70 := Aside0.mk hat
  clear he hat
  simp only[nm]
  refine wpp fun k h=>?_;go_simp;apply h;clear h k
  have hO0 := Aside0.mk h55
  refine step_put e3 (T := 40) (u := .int .i64 (wrap64 ((wrap64 (x4 + 1)) + 1))) (old := (t64, t65, t66)) (new := (t64, t65, wrap64 ((wrap64 (x4 + 1)) + 1))) 2 rfl rfl rfl hat70.out rfl rfl rfl (by kernel_rfl) (by simp [Value.cells, Value.oneCell']) (Nat.le_of_ble_eq_true rfl) rfl hO0.out A67.out ?_
  intro w71 h73 hg
  have hg74 := Aside0.mk hg
  clear hO0 hg
  try simp only[nm]
  have hl76 : Aside0 (a0.length = (((x6.set (x5).toNat (x4, t29, t30)).set (x5).toNat (t46, wrap64 (x4 + 1), t48)).set (x5).toNat (t64, t65, wrap64 ((wrap64 (x4 + 1)) + 1))).length) := Aside0.mk (hl58.out.trans (List.length_set ..).symm)
  refine wln (hK63 _ _ ?_)
  refine wp_region_lit ?_
  iterate 3 (refine wpp fun k h=>?_;go_simp;apply h;clear h k)
  refine wln (hK62 _ _ ?_)
  refine wp_region_lit ?_
  iterate 2 (refine wpp fun k h=>?_;go_simp;apply h;clear h k)
  try simp only [show wrap64 3 = 3 from wlit rfl]
  refine wpp fun k h=>?_;go_simp;apply h;clear h k
  refine wln (hK59 _ _ ?_)
  refine rounds_k (fun K77 hK77 => ?_)
  refine wp_seq_k fun K78 hK78=>?_
  refine wsr fun _ hK79=>?_
  iterate 2 (refine wpp fun k h=>?_;go_simp;apply h;clear h k)
  refine wln (hK79 _ _ ?_)
  refine wp_cond_false rfl ?_
  refine wp_exit ?_
  refine hK21 _ _ ?_
  refine wp_region_lit ?_
  iterate 3 (refine wpp fun k h=>?_;go_simp;apply h;clear h k)
  refine wln (hK16 _ _ ?_)
  go_roundg k13
  case measure => exact Nat.lt_succ_self _
  case rel => exact ⟨wrap64 ((wrap64 ((wrap64 (x4 + 1)) + 1)) + 1), wrap64 (x5 + 1), (((x6.set (x5).toNat (x4, t29, t30)).set (x5).toNat (t46, wrap64 (x4 + 1), t48)).set (x5).toNat (t64, t65, wrap64 ((wrap64 (x4 + 1)) + 1))), (by first | rfl | simp), (by first | rfl | simp), HL80, ⟨by have := hk14.out; omega⟩, ⟨(((hu8.out.trans (Grow.same hg38.out)).trans (Grow.same hg56.out)).trans (Grow.same hg74.out))⟩, ⟨(Nat.le_trans ((Nat.le_trans ((Nat.le_trans ((Nat.le_trans (Nat.le_refl _) hz9.out)) hg38.out.size)) hg56.out.size)) hg74.out.size)⟩, h73, ⟨hl76.out⟩⟩

set_option maxHeartbeats 40000000 in
set_option maxRecDepth 100000 in
theorem laws_heldLineS.calls (K : Nat) (a0_A : Option Addr) (a0_c : Nat) (a0 : List (Int × Int × Int)) (a1 : Int) (r0 : Int) (w : World) (ha0 : Rd e3 w a0_A a0) (h : laws_heldLineS.f K a0 a1 = some (r0)) :
    Calls Try.prog 10 #[.slice a0_A a0.length a0_c, .int .i64 a1] w fun e w' => e = .returned (.int .i64 r0) ∧ Up w w' := by
 have H : ((laws_heldLineS.l0 K a0 K a1 0) : Option (Int)) = some (r0) := h
 clear h
 go_enter Try.func10, Try.ntmps10
 refine wp_hide (fun Qf hQf => ?_)
 refine wsr fun _ hK1=>?_
 refine wpp fun k h=>?_;go_simp;apply h;clear h k
 refine wln (hK1 _ _ ?_)
 refine wp_seq_k fun K2 hK2=>?_
 refine wsr fun _ hK3=>?_
 refine wpp fun k h=>?_;go_simp;apply h;clear h k
 refine wln (hK3 _ _ ?_)
 refine wp_block ?_
 have HL9 := Aside0.mk H
 clear H
 go_loopg [1, 5] K (fun kq v1 v5 w' => ∃ (x4 : Int) (x5 : Int), v1 = .int .i64 x4 ∧ v5 = .int .i64 x5 ∧ Aside0 (laws_heldLineS.l0 K a0 kq x4 x5 = some (r0)) ∧ Aside0 (kq ≤ K) ∧ Aside0 (Up w w') ∧ Aside0 (w.heap.size ≤ w'.heap.size))
 case atStart => exact ⟨a1, 0, (by first | rfl | simp), (by first | rfl | simp), HL9, ⟨Nat.le_refl _⟩, ⟨(Up.refl _)⟩, ⟨Nat.le_refl _⟩⟩
 case round =>
  rename_i J12 K13 hJ12 hK13
  obtain ⟨x4, x5, rfl, rfl, HL14, hk11, hu7, hz8⟩ := hrel
  obtain ⟨w6, rfl⟩ : ∃ wo : World, wo = wr := ⟨_, rfl⟩
  obtain ⟨k10, rfl⟩ | rfl : (∃ k, gk = k + 1) ∨ gk = 0 := by rcases gk with _ | k; exact .inr rfl; exact .inl ⟨k, rfl⟩
  case inr => exact absurd HL14.out (by simp [laws_heldLineS.l0])
  have H := HL14.out
  clear HL14
  rw [laws_heldLineS.l0] at H
  refine wp_seq_k fun K15 hK15=>?_
  refine wsr fun _ hK16=>?_
  iterate 4 (refine wpp fun k h=>?_;go_simp;apply h;clear h k)
  refine wln (hK16 _ _ ?_)
  by_cases c17 : (decide (x5 < (a0.length : Int))) = true
  rotate_left
  ·
   rw [if_neg c17] at H; replace c17 := Bool.eq_false_iff.mpr c17
   obtain rfl := Option.some.inj H
   try simp only [c17, Bool.not_true, Bool.not_false]
   refine wp_cond_false rfl ?_
   refine wp_exit ?_
   refine hK2 _ _ ?_
   refine wsr fun _ hK69=>?_
   iterate 2 (refine wpp fun k h=>?_;go_simp;apply h;clear h k)
   refine wln (hK69 _ _ ?_)
   refine wp_ret ?_
   refine hQf _ _ _ ?_
   exact bpr (v := .int .i64 x4) ⟨rfl, hu7.out⟩
  rw [if_pos c17] at H
  obtain ⟨⟨t26, t27, t28⟩,A29,H⟩:=bnd H;try dsimp only at H
  try simp only [c17, Bool.not_true, Bool.not_false]
  refine wp_cond_true rfl ?_
  refine wp_skip ?_
  refine hK15 _ _ ?_
  refine wp_seq_k fun K18 hK18=>?_
  refine wp_block ?_
  refine wsr fun _ hK19=>?_
  refine wpp fun k h=>?_;go_simp;apply h;clear h k
  refine wln (hK19 _ _ ?_)
  refine wp_block ?_
  refine wp_loop_rounds 40 ?_
  refine rounds_k (fun K20 hK20 => ?_)
  refine wp_seq_k fun K21 hK21=>?_
  refine wsr fun _ hK22=>?_
  iterate 2 (refine wpp fun k h=>?_;go_simp;apply h;clear h k)
  refine wln (hK22 _ _ ?_)
  refine wp_cond_true rfl ?_
  refine wp_skip ?_
  refine hK21 _ _ ?_
  refine wp_seq_k fun K23 hK23=>?_
  refine wp_block ?_
  refine wp_seq_k fun K24 hK24=>?_
  refine wsr fun _ hK25=>?_
  iterate 3 (refine wpp fun k h=>?_;go_simp;apply h;clear h k)
  refine step_index e3 (T := 40) wn rfl (by kernel_rfl) (by kernel_rfl) rfl rfl rfl (ha0.up hu7.out) A29.out ?_
  intro ad30 hat he
  have he31 := Aside0.mk he
  have hat32 := Aside0.mk hat
  clear he hat
  simp only[nm]
  refine wpp fun k h=>?_;go_simp;apply h;clear h k
  have cl0 := he31.out 0 _ rfl
  rw [addr_add0] at cl0
  refine wpp fun k h=>?_;go_simp;apply h;clear h k
  clear cl0
  iterate 2 (refine wpp fun k h=>?_;go_simp;apply h;clear h k)
  refine wln (hK25 _ _ ?_)
  by_cases c33 : (t26 == x4) = true
  rotate_left
  ·
   rw [if_neg c33] at H; replace c33 := Bool.eq_false_iff.mpr c33
   have c33n : (t26 != x4) = true := by rw [bne, c33]; rfl
   have c33p : ¬ t26 = x4 := fun e => by simp [e] at c33
   obtain rfl := Option.some.inj H
   try simp only [c33, c33n, Bool.not_true, Bool.not_false]
   refine wp_cond_true rfl ?_
   refine wsr fun _ hK68=>?_
   refine wpp fun k h=>?_;go_simp;apply h;clear h k
   refine wln (hK68 _ _ ?_)
   refine wp_ret ?_
   refine hQf _ _ _ ?_
   exact bpr (v := .int .i64 (-1)) ⟨rfl, hu7.out⟩
  rw [if_pos c33] at H
  have c33n : (t26 != x4) = false := by rw [bne, c33]; rfl
  obtain ⟨⟨t40, t41, t42⟩,A43,H⟩:=bnd H;try dsimp only at H
  try simp only [c33, c33n, Bool.not_true, Bool.not_false]
  refine wp_cond_false rfl ?_
  refine wp_skip ?_
  refine hK24 _ _ ?_
  refine wp_region_lit ?_
  iterate 3 (refine wpp fun k h=>?_;go_simp;apply h;clear h k)
  refine wln (hK23 _ _ ?_)
  refine wp_region_lit ?_
  iterate 2 (refine wpp fun k h=>?_;go_simp;apply h;clear h k)
  try simp only [show wrap64 1 = 1 from wlit rfl]
  refine wpp fun k h=>?_;go_simp;apply h;clear h k
  refine wln (hK20 _ _ ?_)
  refine rounds_k (fun K34 hK34 => ?_)
  refine wp_seq_k fun K35 hK35=>?_
  refine wsr fun _ hK36=>?_
  iterate 2 (refine wpp fun k h=>?_;go_simp;apply h;clear h k)
  refine wln (hK36 _ _ ?_)
  refine wp_cond_true rfl ?_
  refine wp_skip ?_
  refine hK35 _ _ ?_
  refine wp_seq_k fun K37 hK37=>?_
  refine wp_block ?_
  refine wp_seq_k fun K38 hK38=>?_
  refine wsr fun _ hK39=>?_
  iterate 3 (refine wpp fun k h=>?_;go_simp;apply h;clear h k)
  refine step_index e3 (T := 40) wn rfl (by kernel_rfl) (by kernel_rfl) rfl rfl rfl (ha0.up hu7.out) A43.out ?_
  intro ad44 hat he
  have he45 := Aside0.mk he
  have hat46 := Aside0.mk hat
  clear he hat
  simp only[nm]
  refine wpp fun k h=>?_;go_simp;apply h;clear h k
  have cl0 : World.cell? _ ⟨ad44.block, ad44.off + 1, none⟩ = some _ := he45.out 1 _ rfl
  refine wpp fun k h=>?_;go_simp;apply h;clear h k
  clear cl0
  iterate 2 (refine wpp fun k h=>?_;go_simp;apply h;clear h k)
  refine wln (hK39 _ _ ?_)
  by_cases c47 : (t41 == (wrap64 (x4 + 1))) = true
  rotate_left
  ·
   rw [if_neg c47] at H; replace c47 := Bool.eq_false_iff.mpr c47
   have c47n : (t41 != (wrap64 (x4 + 1))) = true := by rw [bne, c47]; rfl
   have c47p : ¬ t41 = (wrap64 (x4 + 1)) := fun e => by simp [e] at c47
   obtain rfl := Option.some.inj H
   try simp only [c47, c47n, Bool.not_true, Bool.not_false]
   refine wp_cond_true rfl ?_
   refine wsr fun _ hK67=>?_
   refine wpp fun k h=>?_;go_simp;apply h;clear h k
   refine wln (hK67 _ _ ?_)
   refine wp_ret ?_
   refine hQf _ _ _ ?_
   exact bpr (v := .int .i64 (-1)) ⟨rfl, hu7.out⟩
  rw [if_pos c47] at H
  have c47n : (t41 != (wrap64 (x4 + 1))) = false := by rw [bne, c47]; rfl
  obtain ⟨⟨t54, t55, t56⟩,A57,H⟩:=bnd H;try dsimp only at H
  try simp only [c47, c47n, Bool.not_true, Bool.not_false]
  refine wp_cond_false rfl ?_
  refine wp_skip ?_
  refine hK38 _ _ ?_
  refine wp_region_lit ?_
  iterate 3 (refine wpp fun k h=>?_;go_simp;apply h;clear h k)
  refine wln (hK37 _ _ ?_)
  refine wp_region_lit ?_
  iterate 2 (refine wpp fun k h=>?_;go_simp;apply h;clear h k)
  try simp only [show wrap64 2 = 2 from wlit rfl]
  refine wpp fun k h=>?_;go_simp;apply h;clear h k
  refine wln (hK34 _ _ ?_)
  refine rounds_k (fun K48 hK48 => ?_)
  refine wp_seq_k fun K49 hK49=>?_
  refine wsr fun _ hK50=>?_
  iterate 2 (refine wpp fun k h=>?_;go_simp;apply h;clear h k)
  refine wln (hK50 _ _ ?_)
  refine wp_cond_true rfl ?_
  refine wp_skip ?_
  refine hK49 _ _ ?_
  refine wp_seq_k fun K51 hK51=>?_
  refine wp_block ?_
  refine wp_seq_k fun K52 hK52=>?_
  refine wsr fun _ hK53=>?_
  iterate 3 (refine wpp fun k h=>?_;go_simp;apply h;clear h k)
  refine step_index e3 (T := 40) wn rfl (by kernel_rfl) (by kernel_rfl) rfl rfl rfl (ha0.up hu7.out) A57.out ?_
  intro ad58 hat he
  have he59 := Aside0.mk he
  have hat60 := Aside0.mk hat
  clear he hat
  simp only[nm]
  refine wpp fun k h=>?_;go_simp;apply h;clear h k
  have cl0 : World.cell? _ ⟨ad58.block, ad58.off + 2, none⟩ = some _ := he59.out 2 _ rfl
  refine wpp fun k h=>?_;go_simp;apply h;clear h k
  clear cl0
  iterate 2 (refine wpp fun k h=>?_;go_simp;apply h;clear h k)
  refine wln (hK53 _ _ ?_)
  by_cases c61 : (t56 == (wrap64 ((wrap64 (x4 + 1)) + 1))) = true
  rotate_left
  ·
   rw [if_neg c61] at H; replace c61 := Bool.eq_false_iff.mpr c61
   have c61n : (t56 != (wrap64 ((wrap64 (x4 + 1)) + 1))) = true := by rw [bne, c61]; rfl
   have c61p : ¬ t56 = (wrap64 ((wrap64 (x4 + 1)) + 1)) := fun e => by simp [e] at c61
   obtain rfl := Option.some.inj H
   try simp only [c61, c61n, Bool.not_true, Bool.not_false]
   refine wp_cond_true rfl ?_
   refine wsr fun _ hK66=>?_
   refine wpp fun k h=>?_;go_simp;apply h;clear h k
   refine wln (hK66 _ _ ?_)
   refine wp_ret ?_
   refine hQf _ _ _ ?_
   exact bpr (v := .int .i64 (-1)) ⟨rfl, hu7.out⟩
  rw [if_pos c61] at H
  have c61n : (t56 != (wrap64 ((wrap64 (x4 + 1)) + 1))) = false := by rw [bne, c61]; rfl
  have HL65 := Aside0.mk H
  clear H
  try simp only [c61, c61n, Bool.not_true, Bool.not_false]
  refine wp_cond_false rfl ?_
  refine wp_skip ?_
  refine hK52 _ _ ?_
  refine wp_region_lit ?_
  iterate 3 (refine wpp fun k h=>?_;go_simp;apply h;clear h k)
  refine wln (hK51 _ _ ?_)
  refine wp_region_lit ?_
  iterate 2 (refine wpp fun k h=>?_;go_simp;apply h;clear h k)
  try simp only [show wrap64 3 = 3 from wlit rfl]
  refine wpp fun k h=>?_;go_simp;apply h;clear h k
  refine wln (hK48 _ _ ?_)
  refine rounds_k (fun K62 hK62 => ?_)
  refine wp_seq_k fun K63 hK63=>?_
  refine wsr fun _ hK64=>?_
  iterate 2 (refine wpp fun k h=>?_;go_simp;apply h;clear h k)
  refine wln (hK64 _ _ ?_)
  refine wp_cond_false rfl ?_
  refine wp_exit ?_
  refine hK18 _ _ ?_
  refine wp_region_lit ?_
  iterate 3 (refine wpp fun k h=>?_;go_simp;apply h;clear h k)
  refine wln (hK13 _ _ ?_)
  go_roundg k10
  case measure => exact Nat.lt_succ_self _
  case rel => exact ⟨wrap64 ((wrap64 ((wrap64 (x4 + 1)) + 1)) + 1), wrap64 (x5 + 1), (by first | rfl | simp), (by first | rfl | simp), HL65, ⟨by have := hk11.out; omega⟩, ⟨hu7.out⟩, ⟨(Nat.le_trans (Nat.le_refl _) hz8.out)⟩⟩

set_option maxHeartbeats 40000000 in
set_option maxRecDepth 100000 in
theorem laws_FnExactTangentsFrom.calls (K : Nat) (a0 : Int) (a1 : Int) (a2_0 : Int) (a2_1 : Int) (a2_2 : Int) (a3_0 : Int) (a3_1 : Int) (r0 : Bool) (w : World)  (h : laws_FnExactTangentsFrom.f K a0 a1 a2_0 a2_1 a2_2 a3_0 a3_1 = some (r0)) :
    Calls Try.prog 3 #[.int .i64 a0, .int .i64 a1, .agg #[.int .i64 a2_0, .int .i64 a2_1, .int .i64 a2_2], .agg #[.int .i64 a3_0, .int .i64 a3_1]] w fun e w' => e = .returned (.bool r0) ∧ Up w w' := by
 have H : (((laws_toCircle.f K a2_0 a2_1 a2_2).bind fun (t9, t10, t11) => ((laws_toPoint.f K a3_0 a3_1).bind fun (t13, t14) => ((spec_TangentsFrom.f K a0 a1 t9 t10 t11 t13 t14).bind fun (t16, t19) => ((laws_toCircle.f K a2_0 a2_1 a2_2).bind fun (t28, t29, t30) => ((laws_toPoint.f K a3_0 a3_1).bind fun (t32, t33) => ((impl_TangentsFrom.f K a0 a1 t28 t29 t30 t32 t33).bind fun (t35, t38) => ((laws_eqLineS.f K t35 t16).bind fun t48 => (if t48 = true then (if (t38 == t19) = true then ((laws_markLineS.f K t35 1).bind fun (t58, t59) => ((laws_heldLineS.f K t59 1).bind fun t70 => (if decide (t70 < 0) = true then some false else (if (t70 == t58) = true then ((laws_toCircle.f K a2_0 a2_1 a2_2).bind fun (t84, t85, t86) => ((laws_toPoint.f K a3_0 a3_1).bind fun (t88, t89) => ((impl_TangentsFrom.f K a0 a1 t84 t85 t86 t88 t89).bind fun (t91, t94) => ((laws_eqLineS.f K t91 t16).bind fun t104 => (if t104 = true then (if (t94 == t19) = true then ((laws_heldLineS.f K t59 1).bind fun t113 => (if decide (t113 < 0) = true then some false else (if (t113 == t58) = true then some true else some false))) else some false) else some false))))) else some false)))) else some false) else some false)))))))) : Option (Bool)) = some (r0) := h
 clear h
 obtain ⟨⟨t9, t10, t11⟩,A12,H⟩:=bnd H;try dsimp only at H
 obtain ⟨⟨t13, t14⟩,A15,H⟩:=bnd H;try dsimp only at H
 obtain ⟨⟨t16, t19⟩,A20,H⟩:=bnd H;try dsimp only at H
 obtain ⟨⟨t28, t29, t30⟩,A31,H⟩:=bnd H;try dsimp only at H
 obtain ⟨⟨t32, t33⟩,A34,H⟩:=bnd H;try dsimp only at H
 obtain ⟨⟨t35, t38⟩,A39,H⟩:=bnd H;try dsimp only at H
 obtain ⟨t48,A49,H⟩:=bnd H;try dsimp only at H
 go_enter Try.func3, Try.ntmps3
 refine wp_hide (fun Qf hQf => ?_)
 refine wsr fun _ hK1=>?_
 refine stp (cs := [.int .i64 a2_0, .int .i64 a2_1, .int .i64 a2_2]) (T := 24) ?_
 intro b2 w3 hu4 lbb2 ltb2 hb2
 simp only[nm]
 refine stp (cs := [.int .i64 a3_0, .int .i64 a3_1]) (T := 22) ?_
 intro b5 w6 hu7 lbb5 ltb5 hb5
 simp only[nm]
 refine wpp fun k h=>?_;go_simp;apply h;clear h k
 refine wln (hK1 _ _ ?_)
 refine wp_seq_k fun K8 hK8=>?_
 refine' wp_region_up 12 [Slot.det _, Slot.det _, Slot.det _, Slot.det (.agg #[.int .i64 t9, .int .i64 t10, .int .i64 t11]), Slot.det _, Slot.det (.agg #[.int .i64 t13, .int .i64 t14]), Slot.any (RowTo e3 40 w6.heap.size t16 (fun v => .tuple #[v, .int .i64 t19])) false, Slot.any (RowTo e3 40 w6.heap.size t16 (fun v => .tuple #[v, .int .i64 t19])) false, Slot.any (RowTo e3 40 w6.heap.size t16 (fun v => v)) false, Slot.det (.int .i64 t19), Slot.any (RowTo e3 40 w6.heap.size t16 (fun v => v)) false, Slot.det _] (by kernel_rfl) (by kernel_rfl) ?main
 case main =>
  simp only [List.take_succ_cons, List.take_zero]
  refine wpK_ops rfl (fun w1 hu => ?_) ?_
  · clear hu
    go_simp
    first | done | rfl
  simp only[nm]
  refine wpK_ops rfl (fun w1 hu => ?_) ?_
  · clear hu
    go_simp
    first | done | rfl
  simp only[nm]
  refine wpK_ops rfl (fun w1 hu => ?_) ?_
  · have cl0 := ((hb2.up hu7.out).up ((Up.refl _).drew.trans hu)).cell (o := 0) rfl
    have cl1 := ((hb2.up hu7.out).up ((Up.refl _).drew.trans hu)).cell (o := 1) rfl
    have cl2 := ((hb2.up hu7.out).up ((Up.refl _).drew.trans hu)).cell (o := 2) rfl
    go_simp
    first | done | rfl
  simp only[nm]
  refine wpK_ops rfl (fun w1 hu => ?_) ?_
  · have hcl := (laws_toCircle.calls K a2_0 a2_1 a2_2 t9 t10 t11 w1  A12.out)
    clear hu
    replace hcl := Aside0.mk hcl
    go_simp
    exact hcl.out
  simp only[nm]
  refine wpK_ops rfl (fun w1 hu => ?_) ?_
  · have cl0 := (hb5.up ((Up.refl _).drew.trans hu)).cell (o := 0) rfl
    have cl1 := (hb5.up ((Up.refl _).drew.trans hu)).cell (o := 1) rfl
    go_simp
    first | done | rfl
  simp only[nm]
  refine wpK_ops rfl (fun w1 hu => ?_) ?_
  · have hcl := (laws_toPoint.calls K a3_0 a3_1 t13 t14 w1  A15.out)
    clear hu
    replace hcl := Aside0.mk hcl
    go_simp
    exact hcl.out
  simp only[nm]
  refine wpK_any rfl (stab_row _ _ _ _ _) (fun w1 hu hl => ?_) (fun v21 => ?_)
  · have hcl := spec_TangentsFrom.calls K a0 a1 t9 t10 t11 t13 t14 t16 t19 w1  A20.out
    have hz := ((Up.refl _).drew.trans hu).size
    clear hu
    replace hcl := Aside0.mk hcl
    exact fresh_row (by go_simp <;> rfl) hcl.out hz
  simp only[nm]
  refine wpK_any rfl (stab_row _ _ _ _ _) (fun w1 hu hl => ?_) (fun v22 => ?_)
  · exact any_of_run (by go_simp <;> rfl) (hl.1 (by kernel_rfl))
  simp only[nm]
  refine wpK_any rfl (stab_row _ _ _ _ _) (fun w1 hu hl => ?_) (fun v23 => ?_)
  · obtain ⟨A0_, c0_, e0_, hO0_⟩ := hl.1 (by kernel_rfl)
    clear hl hu
    dsimp only at e0_
    subst e0_
    exact any_of_run (u := .slice A0_ t16.length c0_) (by go_simp <;> rfl) ⟨A0_, c0_, rfl, hO0_⟩
  simp only[nm]
  refine wpK_det rfl (fun w1 hu hl => ?_) ?_
  · obtain ⟨A0_, c0_, e0_, hO0_⟩ := hl.2.1 (by kernel_rfl)
    clear hl hu
    dsimp only at e0_
    subst e0_
    clear hO0_
    go_simp
    first | done | rfl
  simp only[nm]
  refine wpK_any rfl (stab_row _ _ _ _ _) (fun w1 hu hl => ?_) (fun v24 => ?_)
  · exact any_of_run (by go_simp <;> rfl) (hl.1 (by kernel_rfl))
  simp only[nm]
  refine wpK_ops rfl (fun w1 hu => ?_) ?_
  · clear hu
    go_simp
    first | done | rfl
  simp only[nm]
  refine wpK_nil ?_
  intro w25 hu hap
  simp only [List.drop_succ_cons, List.drop_zero]
  replace hu := (Up.refl _).drew.trans hu
  obtain ⟨-, -, ⟨P17, q18, e0, ht16⟩, -, -, -, -, -, -, -, -, -, -⟩ := hap
  dsimp only at e0
  subst e0
  have hu26 := Aside0.mk hu
  clear hu
  refine wln (hK8 _ _ ?_)
  refine wp_seq_k fun K27 hK27=>?_
  refine' wp_region_up 12 [Slot.det _, Slot.det _, Slot.det _, Slot.det (.agg #[.int .i64 t28, .int .i64 t29, .int .i64 t30]), Slot.det _, Slot.det (.agg #[.int .i64 t32, .int .i64 t33]), Slot.any (RowTo e3 40 w25.heap.size t35 (fun v => .tuple #[v, .int .i64 t38])) false, Slot.any (RowTo e3 40 w25.heap.size t35 (fun v => .tuple #[v, .int .i64 t38])) false, Slot.any (RowTo e3 40 w25.heap.size t35 (fun v => v)) false, Slot.det (.int .i64 t38), Slot.any (RowTo e3 40 w25.heap.size t35 (fun v => v)) false, Slot.det _] (by kernel_rfl) (by kernel_rfl) ?main
  case main =>
   simp only [List.take_succ_cons, List.take_zero]
   refine wpK_ops rfl (fun w1 hu => ?_) ?_
   · clear hu
     go_simp
     first | done | rfl
   simp only[nm]
   refine wpK_ops rfl (fun w1 hu => ?_) ?_
   · clear hu
     go_simp
     first | done | rfl
   simp only[nm]
   refine wpK_ops rfl (fun w1 hu => ?_) ?_
   · have cl0 := ((hb2.up (hu7.out.trans hu26.out)).up ((Up.refl _).drew.trans hu)).cell (o := 0) rfl
     have cl1 := ((hb2.up (hu7.out.trans hu26.out)).up ((Up.refl _).drew.trans hu)).cell (o := 1) rfl
     have cl2 := ((hb2.up (hu7.out.trans hu26.out)).up ((Up.refl _).drew.trans hu)).cell (o := 2) rfl
     go_simp
     first | done | rfl
   simp only[nm]
   refine wpK_ops rfl (fun w1 hu => ?_) ?_
   · have hcl := (laws_toCircle.calls K a2_0 a2_1 a2_2 t28 t29 t30 w1  A31.out)
     clear hu
     replace hcl := Aside0.mk hcl
     go_simp
     exact hcl.out
   simp only[nm]
   refine wpK_ops rfl (fun w1 hu => ?_) ?_
   · have cl0 := ((hb5.up hu26.out).up ((Up.refl _).drew.trans hu)).cell (o := 0) rfl
     have cl1 := ((hb5.up hu26.out).up ((Up.refl _).drew.trans hu)).cell (o := 1) rfl
     go_simp
     first | done | rfl
   simp only[nm]
   refine wpK_ops rfl (fun w1 hu => ?_) ?_
   · have hcl := (laws_toPoint.calls K a3_0 a3_1 t32 t33 w1  A34.out)
     clear hu
     replace hcl := Aside0.mk hcl
     go_simp
     exact hcl.out
   simp only[nm]
   refine wpK_any rfl (stab_row _ _ _ _ _) (fun w1 hu hl => ?_) (fun v40 => ?_)
   · have hcl := impl_TangentsFrom.calls K a0 a1 t28 t29 t30 t32 t33 t35 t38 w1  A39.out
     have hz := ((Up.refl _).drew.trans hu).size
     clear hu
     replace hcl := Aside0.mk hcl
     exact fresh_row (by go_simp <;> rfl) hcl.out hz
   simp only[nm]
   refine wpK_any rfl (stab_row _ _ _ _ _) (fun w1 hu hl => ?_) (fun v41 => ?_)
   · exact any_of_run (by go_simp <;> rfl) (hl.1 (by kernel_rfl))
   simp only[nm]
   refine wpK_any rfl (stab_row _ _ _ _ _) (fun w1 hu hl => ?_) (fun v42 => ?_)
   · obtain ⟨A0_, c0_, e0_, hO0_⟩ := hl.1 (by kernel_rfl)
     clear hl hu
     dsimp only at e0_
     subst e0_
     exact any_of_run (u := .slice A0_ t35.length c0_) (by go_simp <;> rfl) ⟨A0_, c0_, rfl, hO0_⟩
   simp only[nm]
   refine wpK_det rfl (fun w1 hu hl => ?_) ?_
   · obtain ⟨A0_, c0_, e0_, hO0_⟩ := hl.2.1 (by kernel_rfl)
     clear hl hu
     dsimp only at e0_
     subst e0_
     clear hO0_
     go_simp
     first | done | rfl
   simp only[nm]
   refine wpK_any rfl (stab_row _ _ _ _ _) (fun w1 hu hl => ?_) (fun v43 => ?_)
   · exact any_of_run (by go_simp <;> rfl) (hl.1 (by kernel_rfl))
   simp only[nm]
   refine wpK_ops rfl (fun w1 hu => ?_) ?_
   · clear hu
     go_simp
     first | done | rfl
   simp only[nm]
   refine wpK_nil ?_
   intro w44 hu hap
   simp only [List.drop_succ_cons, List.drop_zero]
   replace hu := (Up.refl _).drew.trans hu
   obtain ⟨-, -, ⟨P36, q37, e0, ht35⟩, -, -, -, -, -, -, -, -, -, -⟩ := hap
   dsimp only at e0
   subst e0
   have hu45 := Aside0.mk hu
   clear hu
   refine wln (hK27 _ _ ?_)
   refine wp_seq_k fun K46 hK46=>?_
   refine wsr fun _ hK47=>?_
   iterate 2 (refine wpp fun k h=>?_;go_simp;apply h;clear h k)
   refine stc (laws_eqLineS.calls K P36 q37 t35 P17 q18 t16 t48 w44 ht35.rd ((ht16.up hu45.out).rd) A49.out) ?_
   intro w50 hu51
   simp only[nm]
   iterate 2 (refine wpp fun k h=>?_;go_simp;apply h;clear h k)
   have hm53 := Aside0.mk ((((hu4.out.trans hu7.out).trans hu26.out).trans hu45.out).trans hu51.out)
   have h54 := (hb2.up (((hu7.out.trans hu26.out).trans hu45.out).trans hu51.out))
   by_cases c52 : (t48) = true
   rotate_left
   ·
    rw [if_neg c52] at H; replace c52 := Bool.eq_false_iff.mpr c52
    subst c52
    obtain rfl := Option.some.inj H
    refine step_no rfl ?_
    simp only[nm]
    refine step_no rfl ?_
    simp only[nm]
    refine step_no rfl ?_
    simp only[nm]
    refine wpp fun k h=>?_;go_simp;apply h;clear h k
    refine wln (hK47 _ _ ?_)
    refine wp_cond_true rfl ?_
    refine wsr fun _ hK130=>?_
    refine wpp fun k h=>?_;go_simp;apply h;clear h k
    refine wln (hK130 _ _ ?_)
    refine wp_ret ?_
    refine hQf _ _ _ ?_
    exact bpr (v := .bool false) ⟨rfl, hm53.out⟩
   rw [if_pos c52] at H
   subst c52
   refine wpList_step fun k h=>?_;go_simp;apply h;clear h k
   refine wpList_step fun k h=>?_;go_simp;apply h;clear h k
   refine wpList_step fun k h=>?_;go_simp;apply h;clear h k
   refine wpp fun k h=>?_;go_simp;apply h;clear h k
   refine wln (hK47 _ _ ?_)
   by_cases c55 : (t38 == t19) = true
   rotate_left
   ·
    rw [if_neg c55] at H; replace c55 := Bool.eq_false_iff.mpr c55
    have c55n : (t38 != t19) = true := by rw [bne, c55]; rfl
    have c55p : ¬ t38 = t19 := fun e => by simp [e] at c55
    obtain rfl := Option.some.inj H
    try simp only [c55, c55n, Bool.not_true, Bool.not_false]
    refine wp_cond_true rfl ?_
    refine wsr fun _ hK129=>?_
    refine wpp fun k h=>?_;go_simp;apply h;clear h k
    refine wln (hK129 _ _ ?_)
    refine wp_ret ?_
    refine hQf _ _ _ ?_
    exact bpr (v := .bool false) ⟨rfl, hm53.out⟩
   rw [if_pos c55] at H
   have c55n : (t38 != t19) = false := by rw [bne, c55]; rfl
   obtain ⟨⟨t58, t59⟩,A60,H⟩:=bnd H;try dsimp only at H
   obtain ⟨t70,A71,H⟩:=bnd H;try dsimp only at H
   try simp only [c55, c55n, Bool.not_true, Bool.not_false]
   refine wp_cond_false rfl ?_
   refine wp_skip ?_
   refine hK46 _ _ ?_
   refine wsr fun _ hK56=>?_
   refine wpp fun k h=>?_;go_simp;apply h;clear h k
   refine wln (hK56 _ _ ?_)
   refine wsr fun _ hK57=>?_
   iterate 2 (refine wpp fun k h=>?_;go_simp;apply h;clear h k)
   refine step_call wn (by go_simp <;> rfl) (laws_markLineS.calls K P36 q37 w25.heap.size t35 1 t58 t59 w50 (ht35.up hu51.out) A60.out) ?_
   have lb62 := Aside0.mk (ht35.up hu51.out).lt
   rintro e w61 ⟨rfl, h63, hl, hg⟩
   have hg65 := Aside0.mk hg
   have hl64 := hl
   clear hg hl
   have h66 := h54.grow hg65.out (fun k hk => Ne.symm ((fun k hk => Nat.ne_of_lt (Nat.lt_of_lt_of_le (Nat.lt_of_lt_of_le ltb2.out ((Nat.le_trans (hu7.out.size) hu26.out.size))) ((fun k hk => Nat.le_trans (Nat.le_refl _) (ht35.lt k hk).1) k hk))) k hk))
   have hl67 : Aside0 (t35.length = t59.length) := Aside0.mk hl64.out
   refine ⟨_, rfl, ?_⟩
   simp only[nm]
   refine wpp fun k h=>?_;go_simp;apply h;clear h k
   refine wln (hK57 _ _ ?_)
   refine wsr fun _ hK68=>?_
   refine wpp fun k h=>?_;go_simp;apply h;clear h k
   refine wln (hK68 _ _ ?_)
   refine wsr fun _ hK69=>?_
   iterate 2 (refine wpp fun k h=>?_;go_simp;apply h;clear h k)
   refine stc (Eq.mp (congrArg (fun n_ => Calls Try.prog 10 #[.slice P36 n_ q37, .int .i64 1] w61 _) (Eq.symm hl67.out)) (laws_heldLineS.calls K P36 q37 t59 1 t70 w61 h63.rd A71.out)) ?_
   intro w72 hu73
   simp only[nm]
   refine wpp fun k h=>?_;go_simp;apply h;clear h k
   refine wln (hK69 _ _ ?_)
   refine wp_seq_k fun K74 hK74=>?_
   refine wsr fun _ hK75=>?_
   iterate 2 (refine wpp fun k h=>?_;go_simp;apply h;clear h k)
   refine wln (hK75 _ _ ?_)
   have hm77 := Aside0.mk ((hm53.out.grow hg65.out (fun k hk => Nat.le_trans ((Nat.le_trans ((Nat.le_trans (hu4.out.size) hu7.out.size)) hu26.out.size)) ((fun k hk => (lb62.out k hk).1) k hk))).trans hu73.out)
   have h78 := (hb5.up ((((hu26.out.trans hu45.out).trans hu51.out).grow hg65.out (fun k hk => Nat.le_trans (hu26.out.size) ((fun k hk => (lb62.out k hk).1) k hk))).trans hu73.out))
   by_cases c76 : (decide (t70 < 0)) = true
   ·
    rw [if_pos c76] at H
    obtain rfl := Option.some.inj H
    try simp only [c76, Bool.not_true, Bool.not_false]
    refine wp_cond_true rfl ?_
    refine wsr fun _ hK79=>?_
    refine wpp fun k h=>?_;go_simp;apply h;clear h k
    refine wln (hK79 _ _ ?_)
    refine wp_ret ?_
    refine hQf _ _ _ ?_
    exact bpr (v := .bool false) ⟨rfl, hm77.out⟩
   rw [if_neg c76] at H; replace c76 := Bool.eq_false_iff.mpr c76
   try simp only [c76, Bool.not_true, Bool.not_false]
   refine wp_cond_false rfl ?_
   refine wp_skip ?_
   refine hK74 _ _ ?_
   refine wp_seq_k fun K80 hK80=>?_
   refine wsr fun _ hK81=>?_
   iterate 3 (refine wpp fun k h=>?_;go_simp;apply h;clear h k)
   refine wln (hK81 _ _ ?_)
   by_cases c82 : (t70 == t58) = true
   rotate_left
   ·
    rw [if_neg c82] at H; replace c82 := Bool.eq_false_iff.mpr c82
    have c82n : (t70 != t58) = true := by rw [bne, c82]; rfl
    have c82p : ¬ t70 = t58 := fun e => by simp [e] at c82
    obtain rfl := Option.some.inj H
    try simp only [c82, c82n, Bool.not_true, Bool.not_false]
    refine wp_cond_true rfl ?_
    refine wsr fun _ hK128=>?_
    refine wpp fun k h=>?_;go_simp;apply h;clear h k
    refine wln (hK128 _ _ ?_)
    refine wp_ret ?_
    refine hQf _ _ _ ?_
    exact bpr (v := .bool false) ⟨rfl, hm77.out⟩
   rw [if_pos c82] at H
   have c82n : (t70 != t58) = false := by rw [bne, c82]; rfl
   obtain ⟨⟨t84, t85, t86⟩,A87,H⟩:=bnd H;try dsimp only at H
   obtain ⟨⟨t88, t89⟩,A90,H⟩:=bnd H;try dsimp only at H
   obtain ⟨⟨t91, t94⟩,A95,H⟩:=bnd H;try dsimp only at H
   obtain ⟨t104,A105,H⟩:=bnd H;try dsimp only at H
   try simp only [c82, c82n, Bool.not_true, Bool.not_false]
   refine wp_cond_false rfl ?_
   refine wp_skip ?_
   refine hK80 _ _ ?_
   refine wp_seq_k fun K83 hK83=>?_
   refine' wp_region_up 12 [Slot.det _, Slot.det _, Slot.det _, Slot.det (.agg #[.int .i64 t84, .int .i64 t85, .int .i64 t86]), Slot.det _, Slot.det (.agg #[.int .i64 t88, .int .i64 t89]), Slot.any (RowTo e3 40 w72.heap.size t91 (fun v => .tuple #[v, .int .i64 t94])) false, Slot.any (RowTo e3 40 w72.heap.size t91 (fun v => .tuple #[v, .int .i64 t94])) false, Slot.any (RowTo e3 40 w72.heap.size t91 (fun v => v)) false, Slot.det (.int .i64 t94), Slot.any (RowTo e3 40 w72.heap.size t91 (fun v => v)) false, Slot.det _] (by kernel_rfl) (by kernel_rfl) ?main
   case main =>
    simp only [List.take_succ_cons, List.take_zero]
    refine wpK_ops rfl (fun w1 hu => ?_) ?_
    · clear hu
      go_simp
      first | done | rfl
    simp only[nm]
    refine wpK_ops rfl (fun w1 hu => ?_) ?_
    · clear hu
      go_simp
      first | done | rfl
    simp only[nm]
    refine wpK_ops rfl (fun w1 hu => ?_) ?_
    · have cl0 := ((h66.up hu73.out).up ((Up.refl _).drew.trans hu)).cell (o := 0) rfl
      have cl1 := ((h66.up hu73.out).up ((Up.refl _).drew.trans hu)).cell (o := 1) rfl
      have cl2 := ((h66.up hu73.out).up ((Up.refl _).drew.trans hu)).cell (o := 2) rfl
      go_simp
      first | done | rfl
    simp only[nm]
    refine wpK_ops rfl (fun w1 hu => ?_) ?_
    · have hcl := (laws_toCircle.calls K a2_0 a2_1 a2_2 t84 t85 t86 w1  A87.out)
      clear hu
      replace hcl := Aside0.mk hcl
      go_simp
      exact hcl.out
    simp only[nm]
    refine wpK_ops rfl (fun w1 hu => ?_) ?_
    · have cl0 := (h78.up ((Up.refl _).drew.trans hu)).cell (o := 0) rfl
      have cl1 := (h78.up ((Up.refl _).drew.trans hu)).cell (o := 1) rfl
      go_simp
      first | done | rfl
    simp only[nm]
    refine wpK_ops rfl (fun w1 hu => ?_) ?_
    · have hcl := (laws_toPoint.calls K a3_0 a3_1 t88 t89 w1  A90.out)
      clear hu
      replace hcl := Aside0.mk hcl
      go_simp
      exact hcl.out
    simp only[nm]
    refine wpK_any rfl (stab_row _ _ _ _ _) (fun w1 hu hl => ?_) (fun v96 => ?_)
    · have hcl := impl_TangentsFrom.calls K a0 a1 t84 t85 t86 t88 t89 t91 t94 w1  A95.out
      have hz := ((Up.refl _).drew.trans hu).size
      clear hu
      replace hcl := Aside0.mk hcl
      exact fresh_row (by go_simp <;> rfl) hcl.out hz
    simp only[nm]
    refine wpK_any rfl (stab_row _ _ _ _ _) (fun w1 hu hl => ?_) (fun v97 => ?_)
    · exact any_of_run (by go_simp <;> rfl) (hl.1 (by kernel_rfl))
    simp only[nm]
    refine wpK_any rfl (stab_row _ _ _ _ _) (fun w1 hu hl => ?_) (fun v98 => ?_)
    · obtain ⟨A0_, c0_, e0_, hO0_⟩ := hl.1 (by kernel_rfl)
      clear hl hu
      dsimp only at e0_
      subst e0_
      exact any_of_run (u := .slice A0_ t91.length c0_) (by go_simp <;> rfl) ⟨A0_, c0_, rfl, hO0_⟩
    simp only[nm]
    refine wpK_det rfl (fun w1 hu hl => ?_) ?_
    · obtain ⟨A0_, c0_, e0_, hO0_⟩ := hl.2.1 (by kernel_rfl)
      clear hl hu
      dsimp only at e0_
      subst e0_
      clear hO0_
      go_simp
      first | done | rfl
    simp only[nm]
    refine wpK_any rfl (stab_row _ _ _ _ _) (fun w1 hu hl => ?_) (fun v99 => ?_)
    · exact any_of_run (by go_simp <;> rfl) (hl.1 (by kernel_rfl))
    simp only[nm]
    refine wpK_ops rfl (fun w1 hu => ?_) ?_
    · clear hu
      go_simp
      first | done | rfl
    simp only[nm]
    refine wpK_nil ?_
    intro w100 hu hap
    simp only [List.drop_succ_cons, List.drop_zero]
    replace hu := (Up.refl _).drew.trans hu
    obtain ⟨-, -, ⟨P92, q93, e0, ht91⟩, -, -, -, -, -, -, -, -, -, -⟩ := hap
    dsimp only at e0
    subst e0
    have hu101 := Aside0.mk hu
    clear hu
    refine wln (hK83 _ _ ?_)
    refine wp_seq_k fun K102 hK102=>?_
    refine wsr fun _ hK103=>?_
    iterate 2 (refine wpp fun k h=>?_;go_simp;apply h;clear h k)
    refine stc (laws_eqLineS.calls K P92 q93 t91 P17 q18 t16 t104 w100 ht91.rd ((ht16.up ((((hu45.out.trans hu51.out).grow hg65.out (fun k hk => Nat.le_trans (Nat.le_refl _) ((fun k hk => (lb62.out k hk).1) k hk))).trans hu73.out).trans hu101.out)).rd) A105.out) ?_
    intro w106 hu107
    simp only[nm]
    iterate 2 (refine wpp fun k h=>?_;go_simp;apply h;clear h k)
    by_cases c108 : (t104) = true
    rotate_left
    ·
     rw [if_neg c108] at H; replace c108 := Bool.eq_false_iff.mpr c108
     subst c108
     obtain rfl := Option.some.inj H
     refine step_no rfl ?_
     simp only[nm]
     refine step_no rfl ?_
     simp only[nm]
     refine step_no rfl ?_
     simp only[nm]
     refine wpp fun k h=>?_;go_simp;apply h;clear h k
     refine wln (hK103 _ _ ?_)
     refine wp_cond_true rfl ?_
     refine wsr fun _ hK127=>?_
     refine wpp fun k h=>?_;go_simp;apply h;clear h k
     refine wln (hK127 _ _ ?_)
     refine wp_ret ?_
     refine hQf _ _ _ ?_
     exact bpr (v := .bool false) ⟨rfl, ((hm77.out.trans hu101.out).trans hu107.out)⟩
    rw [if_pos c108] at H
    subst c108
    refine wpList_step fun k h=>?_;go_simp;apply h;clear h k
    refine wpList_step fun k h=>?_;go_simp;apply h;clear h k
    refine wpList_step fun k h=>?_;go_simp;apply h;clear h k
    refine wpp fun k h=>?_;go_simp;apply h;clear h k
    refine wln (hK103 _ _ ?_)
    by_cases c110 : (t94 == t19) = true
    rotate_left
    ·
     rw [if_neg c110] at H; replace c110 := Bool.eq_false_iff.mpr c110
     have c110n : (t94 != t19) = true := by rw [bne, c110]; rfl
     have c110p : ¬ t94 = t19 := fun e => by simp [e] at c110
     obtain rfl := Option.some.inj H
     try simp only [c110, c110n, Bool.not_true, Bool.not_false]
     refine wp_cond_true rfl ?_
     refine wsr fun _ hK126=>?_
     refine wpp fun k h=>?_;go_simp;apply h;clear h k
     refine wln (hK126 _ _ ?_)
     refine wp_ret ?_
     refine hQf _ _ _ ?_
     exact bpr (v := .bool false) ⟨rfl, ((hm77.out.trans hu101.out).trans hu107.out)⟩
    rw [if_pos c110] at H
    have c110n : (t94 != t19) = false := by rw [bne, c110]; rfl
    obtain ⟨t113,A114,H⟩:=bnd H;try dsimp only at H
    try simp only [c110, c110n, Bool.not_true, Bool.not_false]
    refine wp_cond_false rfl ?_
    refine wp_skip ?_
    refine hK102 _ _ ?_
    refine wsr fun _ hK111=>?_
    refine wpp fun k h=>?_;go_simp;apply h;clear h k
    refine wln (hK111 _ _ ?_)
    refine wsr fun _ hK112=>?_
    iterate 2 (refine wpp fun k h=>?_;go_simp;apply h;clear h k)
    refine stc (Eq.mp (congrArg (fun n_ => Calls Try.prog 10 #[.slice P36 n_ q37, .int .i64 1] w106 _) (Eq.symm hl67.out)) (laws_heldLineS.calls K P36 q37 t59 1 t113 w106 ((h63.up ((hu73.out.trans hu101.out).trans hu107.out)).rd) A114.out)) ?_
    intro w115 hu116
    simp only[nm]
    refine wpp fun k h=>?_;go_simp;apply h;clear h k
    refine wln (hK112 _ _ ?_)
    refine wp_seq_k fun K117 hK117=>?_
    refine wsr fun _ hK118=>?_
    iterate 2 (refine wpp fun k h=>?_;go_simp;apply h;clear h k)
    refine wln (hK118 _ _ ?_)
    by_cases c119 : (decide (t113 < 0)) = true
    ·
     rw [if_pos c119] at H
     obtain rfl := Option.some.inj H
     try simp only [c119, Bool.not_true, Bool.not_false]
     refine wp_cond_true rfl ?_
     refine wsr fun _ hK120=>?_
     refine wpp fun k h=>?_;go_simp;apply h;clear h k
     refine wln (hK120 _ _ ?_)
     refine wp_ret ?_
     refine hQf _ _ _ ?_
     exact bpr (v := .bool false) ⟨rfl, (((hm77.out.trans hu101.out).trans hu107.out).trans hu116.out)⟩
    rw [if_neg c119] at H; replace c119 := Bool.eq_false_iff.mpr c119
    try simp only [c119, Bool.not_true, Bool.not_false]
    refine wp_cond_false rfl ?_
    refine wp_skip ?_
    refine hK117 _ _ ?_
    refine wp_seq_k fun K121 hK121=>?_
    refine wsr fun _ hK122=>?_
    iterate 3 (refine wpp fun k h=>?_;go_simp;apply h;clear h k)
    refine wln (hK122 _ _ ?_)
    by_cases c123 : (t113 == t58) = true
    rotate_left
    ·
     rw [if_neg c123] at H; replace c123 := Bool.eq_false_iff.mpr c123
     have c123n : (t113 != t58) = true := by rw [bne, c123]; rfl
     have c123p : ¬ t113 = t58 := fun e => by simp [e] at c123
     obtain rfl := Option.some.inj H
     try simp only [c123, c123n, Bool.not_true, Bool.not_false]
     refine wp_cond_true rfl ?_
     refine wsr fun _ hK125=>?_
     refine wpp fun k h=>?_;go_simp;apply h;clear h k
     refine wln (hK125 _ _ ?_)
     refine wp_ret ?_
     refine hQf _ _ _ ?_
     exact bpr (v := .bool false) ⟨rfl, (((hm77.out.trans hu101.out).trans hu107.out).trans hu116.out)⟩
    rw [if_pos c123] at H
    have c123n : (t113 != t58) = false := by rw [bne, c123]; rfl
    obtain rfl := Option.some.inj H
    try simp only [c123, c123n, Bool.not_true, Bool.not_false]
    refine wp_cond_false rfl ?_
    refine wp_skip ?_
    refine hK121 _ _ ?_
    refine wsr fun _ hK124=>?_
    refine wpp fun k h=>?_;go_simp;apply h;clear h k
    refine wln (hK124 _ _ ?_)
    refine wp_ret ?_
    refine hQf _ _ _ ?_
    exact bpr (v := .bool true) ⟨rfl, (((hm77.out.trans hu101.out).trans hu107.out).trans hu116.out)⟩

end Go.Proofs.Ytgboaomjahceiaa
