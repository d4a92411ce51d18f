/- The walks: each of these functions of the program computes what its plain function says: impl_pointsWith__impl_pointsAt_1, impl_pointsAt, impl_TangentsFrom, spec_l06Before, spec_l06Put, spec_TangentsFrom, laws_lines9, laws_hasPoint9, spec_IsCircle, laws_FnCircles. -/
import Derived.Test.YtccbmdpikalpfaaGreatProg
import Derived.Test.YtccbmdpikalpfaaGreatD1
import Derived.WalkKit
import Derived.KernelRfl
import Derived.BigQuiet
import Derived.Deep.LoopGhost
import Derived.Laws.StructEq
import Derived.Test.YtccbmdpikalpfaaGreatWC3
namespace Go.Proofs.YtccbmdpikalpfaaGreat
open Go Go.RowKit
attribute [local go_sem] Oper.quiet Oper.quietAt Oper.quietUpon Act.put nm1 nm2 nm3 i64_w run_max2 run_min2 mkT_getD mkT_get mkT_set lookT_cons lookT_nil
attribute [local irreducible] wpList
set_option linter.unusedVariables false
set_option linter.unusedSimpArgs false
attribute [local go_sem] eqT25
attribute [local go_sem] eqT31
attribute [local go_sem] eqT27
attribute [local go_sem] eqR27

set_option maxHeartbeats 40000000 in
set_option maxRecDepth 100000 in
theorem impl_pointsWith__impl_pointsAt_1.calls (K : Nat) (a0 : Int) (bc1_0 : Nat) (c1_0_0 : Int) (bc1_1 : Nat) (c1_1_0 : Int) (bc1_2 : Nat) (c1_2_0 : Int) (c1_2_1 : Int) (bc1_3 : Nat) (c1_3_0 : Int) (r0 : List (Int × Int)) (w : World) (hc1_0 : Blk w bc1_0 [.int .i64 c1_0_0] 2) (hc1_1 : Blk w bc1_1 [.int .i64 c1_1_0] 2) (hc1_2 : Blk w bc1_2 [.int .i64 c1_2_0, .int .i64 c1_2_1] 25) (hc1_3 : Blk w bc1_3 [.int .i64 c1_3_0] 2) (h : impl_pointsWith__impl_pointsAt_1.f K a0 c1_0_0 c1_1_0 c1_2_0 c1_2_1 c1_3_0 = some (r0)) :
    Calls Tryz.prog 47 #[.int .i64 a0, .func (.func 105) #[] #[.pointer (some ⟨bc1_0, 0, none⟩), .pointer (some ⟨bc1_1, 0, none⟩), .pointer (some ⟨bc1_2, 0, none⟩), .pointer (some ⟨bc1_3, 0, none⟩)]] w fun e w' => ∃ (Ar0 : Option Addr) (cr0 : Nat), e = .returned (.slice Ar0 r0.length cr0) ∧ Own e2 25 w' w.heap.size (.slice Ar0 r0.length cr0) r0 ∧ Up w w' := by
 have H : (((impl_allPoints.f K a0).bind fun t8 => (impl_pointsWith__impl_pointsAt_1.l0 K c1_0_0 c1_1_0 c1_2_0 c1_2_1 c1_3_0 t8 K 0 ([] : List (Int × Int)))) : Option (List (Int × Int))) = some (r0) := h
 clear h
 obtain ⟨t8,A11,H⟩:=bnd H;try dsimp only at H
 have ltbc1_0 := Aside0.mk hc1_0.lt
 have ltbc1_1 := Aside0.mk hc1_1.lt
 have ltbc1_2 := Aside0.mk hc1_2.lt
 have ltbc1_3 := Aside0.mk hc1_3.lt
 go_enter Tryz.func47, Tryz.ntmps47
 refine wp_hide (fun Qf hQf => ?_)
 refine wsr fun _ hK1=>?_
 refine wpp fun k h=>?_;go_simp;apply h;clear h k
 refine wln (hK1 _ _ ?_)
 refine wsr fun _ hK2=>?_
 refine step_new (cs := []) (T := 25) (f := fun b => .slice (some ⟨b, 0, none⟩) 0 0) rfl (by go_simp <;> rfl) ?_
 intro b3 w4 hu lb hb3
 simp only[nm]
 have lbb3 := Aside0.mk lb
 clear lb
 have hu5 := Aside0.mk hu
 clear hu
 refine wpp fun k h=>?_;go_simp;apply h;clear h k
 refine wln (hK2 _ _ ?_)
 refine wp_seq_k fun K6 hK6=>?_
 refine wsr fun _ hK7=>?_
 refine wpp fun k h=>?_;go_simp;apply h;clear h k
 refine step_call wn (by go_simp <;> rfl) (impl_allPoints.calls K a0 t8 w4  A11.out) ?_
 rintro e w12 ⟨P9, q10, rfl, ht8, hu⟩
 have hu13 := Aside0.mk hu
 clear hu
 refine ⟨_, rfl, ?_⟩
 simp only[nm]
 iterate 2 (refine wpp fun k h=>?_;go_simp;apply h;clear h k)
 refine wln (hK7 _ _ ?_)
 refine wp_block ?_
 have h15 : Own e2 25 w12 w.heap.size (.slice (some ⟨b3, 0, none⟩) ([].length) 0) [] := Own.of_blk (hb3.up hu13.out) lbb3.out rfl (by simp) (by simp [Enc.flat, e2])
 have h16 : Own e2 25 w4 w.heap.size (.slice (some ⟨b3, 0, none⟩) ([].length) 0) [] := Own.of_blk hb3 lbb3.out rfl (by simp) (by simp [Enc.flat, e2])
 have HL24 := Aside0.mk H
 clear H
 go_loopg [12, 5] K (fun kq v12 v5 w' => ∃ (x17 : Int) (x18 : List (Int × Int)) (P19 : Option Addr) (q20 : Nat), v12 = .int .i64 x17 ∧ v5 = .slice P19 x18.length q20 ∧ Aside0 (impl_pointsWith__impl_pointsAt_1.l0 K c1_0_0 c1_1_0 c1_2_0 c1_2_1 c1_3_0 t8 kq x17 x18 = some (r0)) ∧ Aside0 (kq ≤ K) ∧ Aside0 (Up w w') ∧ Aside0 (w12.heap.size ≤ w'.heap.size) ∧ Own e2 25 w' w4.heap.size (.slice P9 t8.length q10) t8 ∧ Own e2 25 w' w.heap.size (.slice P19 x18.length q20) x18 ∧ Aside0 (∀ k l, blk (.slice P19 x18.length q20) = some k → blk (.slice P9 t8.length q10) = some l → k ≠ l))
 case atStart => exact ⟨0, ([] : List (Int × Int)), some ⟨b3, 0, none⟩, 0, (by first | rfl | simp), (by first | rfl | simp), HL24, ⟨Nat.le_refl _⟩, ⟨(hu5.out.trans hu13.out)⟩, ⟨Nat.le_refl _⟩, ht8, h15, ⟨(fun k l hk hl => Nat.ne_of_lt (Nat.lt_of_lt_of_le ((fun k hk => Nat.lt_of_lt_of_le (h16.lt k hk).2 (Nat.le_refl _)) k hk) ((fun k hk => Nat.le_trans (Nat.le_refl _) (ht8.lt k hk).1) l hl)))⟩⟩
 case round =>
  rename_i J30 K31 hJ30 hK31
  obtain ⟨x17, x18, P19, q20, rfl, rfl, HL32, hk29, hu22, hz23, h25, h26, hn27⟩ := hrel
  obtain ⟨w21, rfl⟩ : ∃ wo : World, wo = wr := ⟨_, rfl⟩
  obtain ⟨k28, rfl⟩ | rfl : (∃ k, gk = k + 1) ∨ gk = 0 := by rcases gk with _ | k; exact .inr rfl; exact .inl ⟨k, rfl⟩
  case inr => exact absurd HL32.out (by simp [impl_pointsWith__impl_pointsAt_1.l0])
  have H := HL32.out
  clear HL32
  rw [impl_pointsWith__impl_pointsAt_1.l0] at H
  refine wsr fun _ hK33=>?_
  refine wpp fun k h=>?_;go_simp;apply h;clear h k
  refine wln (hK33 _ _ ?_)
  refine wp_seq_k fun K34 hK34=>?_
  have hm36 := Aside0.mk hu22.out
  by_cases c35 : (decide (x17 < (t8.length : Int))) = true
  rotate_left
  ·
   rw [if_neg c35] at H; replace c35 := Bool.eq_false_iff.mpr c35
   obtain rfl := Option.some.inj H
   try simp only [c35, Bool.not_true, Bool.not_false]
   refine wp_cond_false rfl ?_
   refine wp_exit ?_
   refine hK6 _ _ ?_
   refine wsr fun _ hK76=>?_
   iterate 2 (refine wpp fun k h=>?_;go_simp;apply h;clear h k)
   refine wln (hK76 _ _ ?_)
   refine wp_ret ?_
   refine hQf _ _ _ ?_
   exact bpr (v := .slice P19 x18.length q20) ⟨P19, q20, rfl, (h26.lower (Nat.le_refl _)), hm36.out⟩
  rw [if_pos c35] at H
  obtain ⟨⟨t39, t40⟩,A41,H⟩:=bnd H;try dsimp only at H
  obtain ⟨t52,A53,H⟩:=bnd H;try dsimp only at H
  try simp only [c35, Bool.not_true, Bool.not_false]
  refine wp_cond_true rfl ?_
  refine wp_skip ?_
  refine hK34 _ _ ?_
  refine wp_seq_k fun K37 hK37=>?_
  refine wp_block ?_
  refine wsr fun _ hK38=>?_
  refine step_index e2 (T := 25) wn rfl (by kernel_rfl) (by kernel_rfl) rfl rfl rfl h25.rd A41.out ?_
  intro ad42 hat he
  have he43 := Aside0.mk he
  have hat44 := Aside0.mk hat
  clear he hat
  simp only[nm]
  have cl0 := he43.out 0 _ rfl
  rw [addr_add0] at cl0
  have cl1 : World.cell? _ ⟨ad42.block, ad42.off + 1, none⟩ = some _ := he43.out 1 _ rfl
  refine wpp fun k h=>?_;go_simp;apply h;clear h k
  clear cl0 cl1
  refine stp (cs := [.int .i64 0, .int .i64 0]) (T := 25) ?_
  intro b45 w46 hu47 lbb45 ltb45 hb45
  simp only[nm]
  refine stw [.int .i64 t39, .int .i64 t40] hb45 rfl rfl rfl rfl rfl (by kernel_rfl) rfl rfl ?_
  intro w48 hs49 hb50
  refine wln (hK38 _ _ ?_)
  refine wsr fun _ hK51=>?_
  refine wpp fun k h=>?_;go_simp;apply h;clear h k
  have cl0 := hb50.cell (o := 0) rfl
  have cl1 := hb50.cell (o := 1) rfl
  refine wpp fun k h=>?_;go_simp;apply h;clear h k
  clear cl0 cl1
  refine stc (impl_pointsAt_1.calls K t39 t40 bc1_0 c1_0_0 bc1_1 c1_1_0 bc1_2 c1_2_0 c1_2_1 bc1_3 c1_3_0 t52 w48 (hc1_0.up ((hm36.out.trans hu47.out).sto (Nat.le_trans (hm36.out.size) lbb45.out) hs49.out)) (hc1_1.up ((hm36.out.trans hu47.out).sto (Nat.le_trans (hm36.out.size) lbb45.out) hs49.out)) (hc1_2.up ((hm36.out.trans hu47.out).sto (Nat.le_trans (hm36.out.size) lbb45.out) hs49.out)) (hc1_3.up ((hm36.out.trans hu47.out).sto (Nat.le_trans (hm36.out.size) lbb45.out) hs49.out)) A53.out) ?_
  intro w54 hu55
  simp only[nm]
  refine wln (hK51 _ _ ?_)
  have hm57 := Aside0.mk ((hu47.out.sto (Nat.le_trans (Nat.le_refl _) lbb45.out) hs49.out).trans hu55.out)
  by_cases c56 : (t52) = true
  rotate_left
  ·
   rw [if_neg c56] at H; replace c56 := Bool.eq_false_iff.mpr c56
   subst c56
   have HL75 := Aside0.mk H
   clear H
   refine wp_cond_false rfl ?_
   refine wp_skip ?_
   refine hK37 _ _ ?_
   refine wp_region_lit ?_
   iterate 2 (refine wpp fun k h=>?_;go_simp;apply h;clear h k)
   refine wln (hK31 _ _ ?_)
   go_roundg k28
   case measure => exact Nat.lt_succ_self _
   case rel => exact ⟨wrap64 (x17 + 1), x18, P19, q20, (by first | rfl | simp), (by first | rfl | simp), HL75, ⟨by have := hk29.out; omega⟩, ⟨(hm36.out.trans hm57.out)⟩, ⟨(Nat.le_trans ((Nat.le_trans (Nat.le_refl _) hz23.out)) hm57.out.size)⟩, (h25.up hm57.out), (h26.up hm57.out), ⟨hn27.out⟩⟩
  rw [if_pos c56] at H
  subst c56
  refine wp_cond_true rfl ?_
  refine wp_region_lit ?_
  refine wpp fun k h=>?_;go_simp;apply h;clear h k
  have cl0 := (hb50.up hu55.out).cell (o := 0) rfl
  have cl1 := (hb50.up hu55.out).cell (o := 1) rfl
  refine wpp fun k h=>?_;go_simp;apply h;clear h k
  clear cl0 cl1
  refine step_new (cs := [.int .i64 t39, .int .i64 t40]) (T := 25) (f := fun b => .slice (some ⟨b, 0, none⟩) 1 1) rfl (by go_simp <;> rfl) ?_
  intro b58 w59 hu lb hb58
  simp only[nm]
  clear lb
  have hu60 := Aside0.mk hu
  clear hu
  have hm62 := Aside0.mk (Nat.le_trans ((Nat.le_trans ((Nat.le_trans (Nat.le_refl _) hz23.out)) hm57.out.size)) hu60.out.size)
  by_cases c61 : (decide (x18.length ≤ 1000000)) = true
  rotate_left
  ·
   rw [if_neg c61] at H; replace c61 := Bool.eq_false_iff.mpr c61
   exact absurd H (by simp)
  rw [if_pos c61] at H
  have HL74 := Aside0.mk H
  clear H
  try simp only [c61, Bool.not_true, Bool.not_false]
  have hO0 := Aside0.mk (h26.up (hm57.out.trans hu60.out))
  refine step_append e2 (z := .agg #[.int .i64 0, .int .i64 0]) (bytes := 16) (base := w.heap.size) (xs := x18) (ys := [(t39, t40)]) wn _ _ rfl rfl (by kernel_rfl) rfl (by decide) rfl rfl rfl hO0.out (Rd.of_blk (E := e2) (xs := [(t39, t40)]) (o := 0) hb58 (by simp) (fun j u hu => by rcases j with _ | _ | j <;> simp_all [Enc.flat, e2])) ((Nat.le_trans ((Nat.le_trans (hm36.out.size) hm57.out.size)) hu60.out.size)) (by have h0_ := (of_decide_eq_true (by assumption) : x18.length ≤ 1000000); (try simp only [List.length_cons, List.length_nil]); omega) ?_
  intro P63 q64 w65 h67 hg hat
  have hg68 := Aside0.mk hg
  have hat69 := Aside0.mk hat
  simp only[nm]
  have lb70 := Aside0.mk hO0.out.lt
  clear hO0 hg hat
  have h71 := (h25.up (hm57.out.trans hu60.out)).grow hg68.out hn27.out
  refine wpp fun k h=>?_;go_simp;apply h;clear h k
  refine wln (hK37 _ _ ?_)
  refine wp_region_lit ?_
  iterate 2 (refine wpp fun k h=>?_;go_simp;apply h;clear h k)
  refine wln (hK31 _ _ ?_)
  go_roundg k28
  case measure => exact Nat.lt_succ_self _
  case rel => exact ⟨wrap64 (x17 + 1), (x18 ++ [(t39, t40)]), P63, q64, (by first | rfl | simp), (by first | rfl | simp), HL74, ⟨by have := hk29.out; omega⟩, ⟨(((hm36.out.trans hm57.out).trans hu60.out).grow hg68.out (fun k hk => Nat.le_trans (Nat.le_refl _) ((fun k hk => (lb70.out k hk).1) k hk)))⟩, ⟨(Nat.le_trans (hm62.out) hg68.out.size)⟩, h71, h67, ⟨(fun k l hk hl => hat69.out.elim (fun e => hn27.out k l (e.symm.trans hk) hl) (fun g => Nat.ne_of_gt (Nat.lt_of_lt_of_le ((fun k hk => Nat.lt_of_lt_of_le (ht8.lt k hk).2 (hm62.out)) l hl) (g k hk))))⟩⟩

set_option maxHeartbeats 40000000 in
set_option maxRecDepth 100000 in
theorem impl_pointsAt.calls (K : Nat) (a0 : Int) (a1 : Int) (a2_0 : Int) (a2_1 : Int) (a3 : Int) (r0 : List (Int × Int)) (w : World)  (h : impl_pointsAt.f K a0 a1 a2_0 a2_1 a3 = some (r0)) :
    Calls Tryz.prog 69 #[.int .i64 a0, .int .i64 a1, .agg #[.int .i64 a2_0, .int .i64 a2_1], .int .i64 a3] w fun e w' => ∃ (Ar0 : Option Addr) (cr0 : Nat), e = .returned (.slice Ar0 r0.length cr0) ∧ Own e2 25 w' w.heap.size (.slice Ar0 r0.length cr0) r0 ∧ Up w w' := by
 have H : (((impl_pointsWith__impl_pointsAt_1.f K a0 a0 a1 a2_0 a2_1 a3).bind fun t15 => some t15) : Option (List (Int × Int))) = some (r0) := h
 clear h
 obtain ⟨t15,A18,H⟩:=bnd H;try dsimp only at H
 obtain rfl := Option.some.inj H
 go_enter Tryz.func69, Tryz.ntmps69
 refine wp_hide (fun Qf hQf => ?_)
 refine wsr fun _ hK1=>?_
 refine stp (cs := [.int .i64 a0]) (T := 2) ?_
 intro b2 w3 hu4 lbb2 ltb2 hb2
 simp only[nm]
 refine stp (cs := [.int .i64 a1]) (T := 2) ?_
 intro b5 w6 hu7 lbb5 ltb5 hb5
 simp only[nm]
 refine stp (cs := [.int .i64 a2_0, .int .i64 a2_1]) (T := 25) ?_
 intro b8 w9 hu10 lbb8 ltb8 hb8
 simp only[nm]
 refine stp (cs := [.int .i64 a3]) (T := 2) ?_
 intro b11 w12 hu13 lbb11 ltb11 hb11
 simp only[nm]
 refine wpp fun k h=>?_;go_simp;apply h;clear h k
 refine wln (hK1 _ _ ?_)
 refine wsr fun _ hK14=>?_
 have cl0 := (hb2.up ((hu7.out.trans hu10.out).trans hu13.out)).cell (o := 0) rfl
 refine wpp fun k h=>?_;go_simp;apply h;clear h k
 clear cl0
 refine wpp fun k h=>?_;go_simp;apply h;clear h k
 refine step_call wn (by go_simp <;> rfl) (impl_pointsWith__impl_pointsAt_1.calls K a0 b2 a0 b5 a1 b8 a2_0 a2_1 b11 a3 t15 w12 (hb2.up ((hu7.out.trans hu10.out).trans hu13.out)) (hb5.up (hu10.out.trans hu13.out)) (hb8.up hu13.out) hb11 A18.out) ?_
 rintro e w19 ⟨P16, q17, rfl, ht15, hu⟩
 have hu20 := Aside0.mk hu
 clear hu
 refine ⟨_, rfl, ?_⟩
 simp only[nm]
 refine wpp fun k h=>?_;go_simp;apply h;clear h k
 refine wln (hK14 _ _ ?_)
 refine wp_ret ?_
 refine hQf _ _ _ ?_
 exact bpr (v := .slice P16 t15.length q17) ⟨P16, q17, rfl, (ht15.lower ((Nat.le_trans ((Nat.le_trans ((Nat.le_trans (hu4.out.size) hu7.out.size)) hu10.out.size)) hu13.out.size))), ((((hu4.out.trans hu7.out).trans hu10.out).trans hu13.out).trans hu20.out)⟩

set_option maxHeartbeats 40000000 in
set_option maxRecDepth 100000 in
theorem impl_TangentsFrom.calls (K : Nat) (a0 : Int) (a1 : Int) (a2_0 : Int) (a2_1 : Int) (a2_2 : Int) (a3_0 : Int) (a3_1 : Int) (r0 : List (Int × Int × Int)) (r1 : Int) (w : World)  (h : impl_TangentsFrom.f K a0 a1 a2_0 a2_1 a2_2 a3_0 a3_1 = some (r0, r1)) :
    Calls Tryz.prog 21 #[.int .i64 a0, .int .i64 a1, .agg #[.int .i64 a2_0, .int .i64 a2_1, .int .i64 a2_2], .agg #[.int .i64 a3_0, .int .i64 a3_1]] w fun e w' => ∃ (Ar0 : Option Addr) (cr0 : Nat), e = .returned (.tuple #[.slice Ar0 r0.length cr0, .int .i64 r1]) ∧ Own e3 31 w' w.heap.size (.slice Ar0 r0.length cr0) r0 ∧ Up w w' := by
 have H : (((impl_asked__impl_TangentsFrom_1.f K a0 a1 a0 a2_0 a2_1 a2_2 a3_0 a3_1).bind fun t16 => (if (t16 == 0) = true then ((impl_pointsAt.f K a0 a1 a2_0 a2_1 a2_2).bind fun t40 => (impl_TangentsFrom.l0 K a0 a1 a2_0 a2_1 a2_2 a3_0 a3_1 t40 K 0 ([] : List (Int × Int × Int)) ([] : List (Int × Int × Int)))) else some ([], t16))) : Option (List (Int × Int × Int) × Int)) = some (r0, r1) := h
 clear h
 obtain ⟨t16,A17,H⟩:=bnd H;try dsimp only at H
 go_enter Tryz.func21, Tryz.ntmps21
 refine wp_hide (fun Qf hQf => ?_)
 refine wsr fun _ hK1=>?_
 refine stp (cs := [.int .i64 a0]) (T := 2) ?_
 intro b2 w3 hu4 lbb2 ltb2 hb2
 simp only[nm]
 refine stp (cs := [.int .i64 a1]) (T := 2) ?_
 intro b5 w6 hu7 lbb5 ltb5 hb5
 simp only[nm]
 refine stp (cs := [.int .i64 a2_0, .int .i64 a2_1, .int .i64 a2_2]) (T := 27) ?_
 intro b8 w9 hu10 lbb8 ltb8 hb8
 simp only[nm]
 refine stp (cs := [.int .i64 a3_0, .int .i64 a3_1]) (T := 25) ?_
 intro b11 w12 hu13 lbb11 ltb11 hb11
 simp only[nm]
 iterate 2 (refine wpp fun k h=>?_;go_simp;apply h;clear h k)
 refine wln (hK1 _ _ ?_)
 refine wp_seq_k fun K14 hK14=>?_
 refine wsr fun _ hK15=>?_
 have cl0 := (hb2.up ((hu7.out.trans hu10.out).trans hu13.out)).cell (o := 0) rfl
 refine wpp fun k h=>?_;go_simp;apply h;clear h k
 clear cl0
 refine wpp fun k h=>?_;go_simp;apply h;clear h k
 refine stc (impl_asked__impl_TangentsFrom_1.calls K a0 b5 a1 b2 a0 b8 a2_0 a2_1 a2_2 b11 a3_0 a3_1 t16 w12 (hb5.up (hu10.out.trans hu13.out)) (hb2.up ((hu7.out.trans hu10.out).trans hu13.out)) (hb8.up hu13.out) hb11 A17.out) ?_
 intro w18 hu19
 simp only[nm]
 refine wpp fun k h=>?_;go_simp;apply h;clear h k
 refine wln (hK15 _ _ ?_)
 refine wsr fun _ hK20=>?_
 iterate 2 (refine wpp fun k h=>?_;go_simp;apply h;clear h k)
 refine wln (hK20 _ _ ?_)
 have hm22 := Aside0.mk ((((hu4.out.trans hu7.out).trans hu10.out).trans hu13.out).trans hu19.out)
 have h23 := (hb2.up (((hu7.out.trans hu10.out).trans hu13.out).trans hu19.out))
 by_cases c21 : (t16 == 0) = true
 rotate_left
 ·
  rw [if_neg c21] at H; replace c21 := Bool.eq_false_iff.mpr c21
  have c21n : (t16 != 0) = true := by rw [bne, c21]; rfl
  have c21p : ¬ t16 = 0 := fun e => by simp [e] at c21
  simp only [Option.some.injEq, Prod.mk.injEq] at H
  obtain ⟨rfl, rfl⟩ := H
  try simp only [c21, c21n, Bool.not_true, Bool.not_false]
  refine wp_cond_true rfl ?_
  refine wsr fun _ hK191=>?_
  iterate 3 (refine wpp fun k h=>?_;go_simp;apply h;clear h k)
  refine wln (hK191 _ _ ?_)
  refine wp_ret ?_
  have h193 : Own e3 31 w18 w18.heap.size (.slice none ([] : List (Int × Int × Int)).length 0) [] := Own.nil
  refine hQf _ _ _ ?_
  exact bpr (v := .tuple #[.slice none 0 0, .int .i64 t16]) ⟨none, 0, rfl, (h193.lower (hm22.out.size)), hm22.out⟩
 rw [if_pos c21] at H
 have c21n : (t16 != 0) = false := by rw [bne, c21]; rfl
 obtain ⟨t40,A43,H⟩:=bnd H;try dsimp only at H
 try simp only [c21, c21n, Bool.not_true, Bool.not_false]
 refine wp_cond_false rfl ?_
 refine wp_skip ?_
 refine hK14 _ _ ?_
 refine wsr fun _ hK24=>?_
 refine step_newmap rfl (by have hmm := @run_makeMap Tryz.prog; go_simp <;> rfl) ?_
 intro b25 w26 hu lb hb25
 simp only[nm]
 have lbb25 := Aside0.mk lb
 have ltb25 := Aside0.mk hb25.lt
 clear lb
 have hu27 := Aside0.mk hu
 clear hu
 refine wpp fun k h=>?_;go_simp;apply h;clear h k
 refine wln (hK24 _ _ ?_)
 refine wsr fun _ hK28=>?_
 refine step_new (cs := []) (T := 31) (f := fun b => .slice (some ⟨b, 0, none⟩) 0 0) rfl (by go_simp <;> rfl) ?_
 intro b29 w30 hu lb hb29
 simp only[nm]
 have lbb29 := Aside0.mk lb
 clear lb
 have hu31 := Aside0.mk hu
 clear hu
 refine stp (cs := [.slice none 0 0]) (T := 50) ?_
 intro b32 w33 hu34 lbb32 ltb32 hb32
 simp only[nm]
 have hB0 := hb32
 have cl0 := hB0.cell (o := 0) rfl
 have fr0 := hB0.free 0
 refine step_store (b := b32) (cs' := [.slice (some ⟨b29, 0, none⟩) 0 0]) (T := 50) (W' := (w33.setCell ⟨b32, 0, none⟩ (.slice (some ⟨b29, 0, none⟩) 0 0))) rfl rfl (by go_simp <;> rfl) ((Sto.refl _ _).setCell 0 _) ((hB0).setCell 0 _) ?_
 clear hB0 cl0 fr0
 intro w35 hs hb37
 have hs36 := Aside0.mk hs
 clear hs
 refine wln (hK28 _ _ ?_)
 refine wp_seq_k fun K38 hK38=>?_
 refine wsr fun _ hK39=>?_
 have cl0 := (h23.up (((hu27.out.trans hu31.out).trans hu34.out).sto (Nat.le_trans ((Nat.le_trans (hu27.out.size) hu31.out.size)) lbb32.out) hs36.out)).cell (o := 0) rfl
 refine wpp fun k h=>?_;go_simp;apply h;clear h k
 clear cl0
 have cl0 := (hb5.up ((((((hu10.out.trans hu13.out).trans hu19.out).trans hu27.out).trans hu31.out).trans hu34.out).sto (Nat.le_trans ((Nat.le_trans ((Nat.le_trans ((Nat.le_trans ((Nat.le_trans (hu10.out.size) hu13.out.size)) hu19.out.size)) hu27.out.size)) hu31.out.size)) lbb32.out) hs36.out)).cell (o := 0) rfl
 refine wpp fun k h=>?_;go_simp;apply h;clear h k
 clear cl0
 refine wpp fun k h=>?_;go_simp;apply h;clear h k
 have cl0 := (hb8.up (((((hu13.out.trans hu19.out).trans hu27.out).trans hu31.out).trans hu34.out).sto (Nat.le_trans ((Nat.le_trans ((Nat.le_trans ((Nat.le_trans (hu13.out.size) hu19.out.size)) hu27.out.size)) hu31.out.size)) lbb32.out) hs36.out)).cell (o := 0) rfl
 have cl1 := (hb8.up (((((hu13.out.trans hu19.out).trans hu27.out).trans hu31.out).trans hu34.out).sto (Nat.le_trans ((Nat.le_trans ((Nat.le_trans ((Nat.le_trans (hu13.out.size) hu19.out.size)) hu27.out.size)) hu31.out.size)) lbb32.out) hs36.out)).cell (o := 1) rfl
 refine wpp fun k h=>?_;go_simp;apply h;clear h k
 clear cl0 cl1
 refine wpp fun k h=>?_;go_simp;apply h;clear h k
 have cl0 := (hb8.up (((((hu13.out.trans hu19.out).trans hu27.out).trans hu31.out).trans hu34.out).sto (Nat.le_trans ((Nat.le_trans ((Nat.le_trans ((Nat.le_trans (hu13.out.size) hu19.out.size)) hu27.out.size)) hu31.out.size)) lbb32.out) hs36.out)).cell (o := 2) rfl
 refine wpp fun k h=>?_;go_simp;apply h;clear h k
 clear cl0
 refine step_call wn (by go_simp <;> rfl) (impl_pointsAt.calls K a0 a1 a2_0 a2_1 a2_2 t40 w35  A43.out) ?_
 rintro e w44 ⟨P41, q42, rfl, ht40, hu⟩
 have hu45 := Aside0.mk hu
 clear hu
 refine ⟨_, rfl, ?_⟩
 simp only[nm]
 iterate 2 (refine wpp fun k h=>?_;go_simp;apply h;clear h k)
 refine wln (hK39 _ _ ?_)
 refine wp_block ?_
 have h48 : Own e3 31 w44 w26.heap.size (.slice (some ⟨b29, 0, none⟩) ([].length) 0) [] := Own.of_blk (hb29.up ((hu34.out.sto (Nat.le_trans (Nat.le_refl _) lbb32.out) hs36.out).trans hu45.out)) lbb29.out rfl (by simp) (by simp [Enc.flat, e3])
 have h49 : Own e3 31 w30 w26.heap.size (.slice (some ⟨b29, 0, none⟩) ([].length) 0) [] := Own.of_blk hb29 lbb29.out rfl (by simp) (by simp [Enc.flat, e3])
 have HL57 := Aside0.mk H
 clear H
 go_loopg [32] K (fun kq v32 w' => ∃ (x46 : Int) (x50 : List (Int × Int × Int)) (P51 : Option Addr) (q52 : Nat) (x53 : List (Int × Int × Int)), v32 = .int .i64 x46 ∧ Aside0 (impl_TangentsFrom.l0 K a0 a1 a2_0 a2_1 a2_2 a3_0 a3_1 t40 kq x46 x50 x53 = some (r0, r1)) ∧ Aside0 (kq ≤ K) ∧ Aside0 (Up w18 w') ∧ Aside0 (w44.heap.size ≤ w'.heap.size) ∧ MapOf w' b25 x53 ∧ Blk w' b32 [.slice P51 x50.length q52] 50 ∧ Own e2 25 w' w35.heap.size (.slice P41 t40.length q42) t40 ∧ Own e3 31 w' w26.heap.size (.slice P51 x50.length q52) x50 ∧ Aside0 (∀ k, blk (.slice P51 x50.length q52) = some k → k ≠ b2) ∧ Aside0 (∀ k, blk (.slice P51 x50.length q52) = some k → k ≠ b5) ∧ Aside0 (∀ k, blk (.slice P51 x50.length q52) = some k → k ≠ b8) ∧ Aside0 (∀ k, blk (.slice P51 x50.length q52) = some k → k ≠ b11) ∧ Aside0 (∀ k, blk (.slice P51 x50.length q52) = some k → k ≠ b25) ∧ Aside0 (∀ k, blk (.slice P51 x50.length q52) = some k → k ≠ b32) ∧ Aside0 (∀ k l, blk (.slice P51 x50.length q52) = some k → blk (.slice P41 t40.length q42) = some l → k ≠ l))
 case atStart => exact ⟨0, ([] : List (Int × Int × Int)), some ⟨b29, 0, none⟩, 0, ([] : List (Int × Int × Int)), (by first | rfl | simp), HL57, ⟨Nat.le_refl _⟩, ⟨((((hu27.out.trans hu31.out).trans hu34.out).sto (Nat.le_trans ((Nat.le_trans (hu27.out.size) hu31.out.size)) lbb32.out) hs36.out).trans hu45.out)⟩, ⟨Nat.le_refl _⟩, (hb25.up (((hu31.out.trans hu34.out).sto (Nat.le_trans (hu31.out.size) lbb32.out) hs36.out).trans hu45.out)), (hb37.up hu45.out), ht40, h48, ⟨(fun k hk => Ne.symm ((fun k hk => Nat.ne_of_lt (Nat.lt_of_lt_of_le (Nat.lt_of_lt_of_le ltb2.out ((Nat.le_trans ((Nat.le_trans ((Nat.le_trans ((Nat.le_trans (hu7.out.size) hu10.out.size)) hu13.out.size)) hu19.out.size)) hu27.out.size))) ((fun k hk => Nat.le_trans (Nat.le_refl _) (h49.lt k hk).1) k hk))) k hk))⟩, ⟨(fun k hk => Ne.symm ((fun k hk => Nat.ne_of_lt (Nat.lt_of_lt_of_le (Nat.lt_of_lt_of_le ltb5.out ((Nat.le_trans ((Nat.le_trans ((Nat.le_trans (hu10.out.size) hu13.out.size)) hu19.out.size)) hu27.out.size))) ((fun k hk => Nat.le_trans (Nat.le_refl _) (h49.lt k hk).1) k hk))) k hk))⟩, ⟨(fun k hk => Ne.symm ((fun k hk => Nat.ne_of_lt (Nat.lt_of_lt_of_le (Nat.lt_of_lt_of_le ltb8.out ((Nat.le_trans ((Nat.le_trans (hu13.out.size) hu19.out.size)) hu27.out.size))) ((fun k hk => Nat.le_trans (Nat.le_refl _) (h49.lt k hk).1) k hk))) k hk))⟩, ⟨(fun k hk => Ne.symm ((fun k hk => Nat.ne_of_lt (Nat.lt_of_lt_of_le (Nat.lt_of_lt_of_le ltb11.out ((Nat.le_trans (hu19.out.size) hu27.out.size))) ((fun k hk => Nat.le_trans (Nat.le_refl _) (h49.lt k hk).1) k hk))) k hk))⟩, ⟨(fun k hk => Ne.symm ((fun k hk => Nat.ne_of_lt (Nat.lt_of_lt_of_le ltb25.out ((fun k hk => Nat.le_trans (Nat.le_refl _) (h49.lt k hk).1) k hk))) k hk))⟩, ⟨(fun k hk => Nat.ne_of_lt (Nat.lt_of_lt_of_le ((fun k hk => Nat.lt_of_lt_of_le (h49.lt k hk).2 (Nat.le_refl _)) k hk) lbb32.out))⟩, ⟨(fun k l hk hl => Nat.ne_of_lt (Nat.lt_of_lt_of_le ((fun k hk => Nat.lt_of_lt_of_le (h49.lt k hk).2 ((Nat.le_trans (hu34.out.size) (Nat.le_of_eq hs36.out.size.symm)))) k hk) ((fun k hk => Nat.le_trans (Nat.le_refl _) (ht40.lt k hk).1) l hl)))⟩⟩
 case round =>
  rename_i J71 K72 hJ71 hK72
  obtain ⟨x46, x50, P51, q52, x53, rfl, HL73, hk70, hu55, hz56, h58, h59, h60, h61, hn62, hn63, hn64, hn65, hn66, hn67, hn68⟩ := hrel
  obtain ⟨w54, rfl⟩ : ∃ wo : World, wo = wr := ⟨_, rfl⟩
  obtain ⟨k69, rfl⟩ | rfl : (∃ k, gk = k + 1) ∨ gk = 0 := by rcases gk with _ | k; exact .inr rfl; exact .inl ⟨k, rfl⟩
  case inr => exact absurd HL73.out (by simp [impl_TangentsFrom.l0])
  have H := HL73.out
  clear HL73
  rw [impl_TangentsFrom.l0] at H
  refine wsr fun _ hK74=>?_
  refine wpp fun k h=>?_;go_simp;apply h;clear h k
  refine wln (hK74 _ _ ?_)
  refine wp_seq_k fun K75 hK75=>?_
  have hm77 := Aside0.mk hu55.out
  have h78 := (hb5.up (((hu10.out.trans hu13.out).trans hu19.out).trans hm77.out))
  by_cases c76 : (decide (x46 < (t40.length : Int))) = true
  rotate_left
  ·
   rw [if_neg c76] at H; replace c76 := Bool.eq_false_iff.mpr c76
   try simp only [c76, Bool.not_true, Bool.not_false]
   refine wp_cond_false rfl ?_
   refine wp_exit ?_
   refine hK38 _ _ ?_
   refine wsr fun _ hK181=>?_
   have cl0 := h59.cell (o := 0) rfl
   refine wpp fun k h=>?_;go_simp;apply h;clear h k
   clear cl0
   iterate 2 (refine wpp fun k h=>?_;go_simp;apply h;clear h k)
   by_cases c182 : (decide (x50.length ≤ 1000000)) = true
   rotate_left
   ·
    rw [if_neg c182] at H; replace c182 := Bool.eq_false_iff.mpr c182
    exact absurd H (by simp)
   rw [if_pos c182] at H
   simp only [Option.some.injEq, Prod.mk.injEq] at H
   obtain ⟨rfl, rfl⟩ := H
   try simp only [c182, Bool.not_true, Bool.not_false]
   have lb187 := Aside0.mk h61.lt
   refine step_call wn (by go_simp <;> rfl) (sort_ex h61 h59 hn67.out (of_decide_eq_true (by assumption))) ?_
   rintro e w183 ⟨rfl, h184, hl, hg⟩
   have hg186 := Aside0.mk hg
   have hl185 := hl
   clear hg hl
   have h189 := h59.grow hg186.out hn67.out
   refine ⟨_, rfl, ?_⟩
   simp only[nm]
   refine wln (hK181 _ _ ?_)
   refine wsr fun _ hK190=>?_
   have cl0 := h189.cell (o := 0) rfl
   refine wpp fun k h=>?_;go_simp;apply h;clear h k
   clear cl0
   iterate 2 (refine wpp fun k h=>?_;go_simp;apply h;clear h k)
   refine wln (hK190 _ _ ?_)
   refine wp_ret ?_
   refine hQf _ _ _ ?_
   exact bodyPost_ret (v := .tuple #[.slice P51 ((sortL x50).length) q52, .int .i64 0]) (by first|rfl|simp [results, Tryz.results21, go_sem, hl185.out]<;>rfl) rfl ⟨P51, q52, rfl, (h184.lower ((Nat.le_trans (hm22.out.size) hu27.out.size))), ((hm22.out.trans hm77.out).grow hg186.out (fun k hk => Nat.le_trans ((Nat.le_trans (hm22.out.size) hu27.out.size)) ((fun k hk => (lb187.out k hk).1) k hk)))⟩
  rw [if_pos c76] at H
  obtain ⟨⟨t81, t82⟩,A83,H⟩:=bnd H;try dsimp only at H
  try simp only [c76, Bool.not_true, Bool.not_false]
  refine wp_cond_true rfl ?_
  refine wp_skip ?_
  refine hK75 _ _ ?_
  refine wp_seq_k fun K79 hK79=>?_
  refine wp_block ?_
  refine wsr fun _ hK80=>?_
  refine step_index e2 (T := 25) wn rfl (by kernel_rfl) (by kernel_rfl) rfl rfl rfl h60.rd A83.out ?_
  intro ad84 hat he
  have he85 := Aside0.mk he
  have hat86 := Aside0.mk hat
  clear he hat
  simp only[nm]
  have cl0 := he85.out 0 _ rfl
  rw [addr_add0] at cl0
  have cl1 : World.cell? _ ⟨ad84.block, ad84.off + 1, none⟩ = some _ := he85.out 1 _ rfl
  refine wpp fun k h=>?_;go_simp;apply h;clear h k
  clear cl0 cl1
  refine stp (cs := [.int .i64 0, .int .i64 0]) (T := 25) ?_
  intro b87 w88 hu89 lbb87 ltb87 hb87
  simp only[nm]
  refine stw [.int .i64 t81, .int .i64 t82] hb87 rfl rfl rfl rfl rfl (by kernel_rfl) rfl rfl ?_
  intro w90 hs91 hb92
  refine wln (hK80 _ _ ?_)
  refine wp_seq_k fun K93 hK93=>?_
  refine wsr fun _ hK94=>?_
  have cl0 := hb92.cell (o := 0) rfl
  have cl1 := hb92.cell (o := 1) rfl
  refine wpp fun k h=>?_;go_simp;apply h;clear h k
  clear cl0 cl1
  refine wpp fun k h=>?_;go_simp;apply h;clear h k
  have cl0 := (hb8.up ((((hu13.out.trans hu19.out).trans hm77.out).trans hu89.out).sto (Nat.le_trans ((Nat.le_trans ((Nat.le_trans (hu13.out.size) hu19.out.size)) hm77.out.size)) lbb87.out) hs91.out)).cell (o := 0) rfl
  have cl1 := (hb8.up ((((hu13.out.trans hu19.out).trans hm77.out).trans hu89.out).sto (Nat.le_trans ((Nat.le_trans ((Nat.le_trans (hu13.out.size) hu19.out.size)) hm77.out.size)) lbb87.out) hs91.out)).cell (o := 1) rfl
  refine wpp fun k h=>?_;go_simp;apply h;clear h k
  clear cl0 cl1
  refine wpp fun k h=>?_;go_simp;apply h;clear h k
  refine wln (hK94 _ _ ?_)
  have hm99 := Aside0.mk (Nat.le_trans ((Nat.le_trans ((Nat.le_trans (Nat.le_refl _) hz56.out)) hu89.out.size)) (Nat.le_of_eq hs91.out.size.symm))
  have h100 := (h23.up ((hm77.out.trans hu89.out).sto (Nat.le_trans (hm77.out.size) lbb87.out) hs91.out))
  have h101 := (h78.up (hu89.out.sto (Nat.le_trans (Nat.le_refl _) lbb87.out) hs91.out))
  have h102 := (hb8.up ((((hu13.out.trans hu19.out).trans hm77.out).trans hu89.out).sto (Nat.le_trans ((Nat.le_trans ((Nat.le_trans (hu13.out.size) hu19.out.size)) hm77.out.size)) lbb87.out) hs91.out))
  have h103 := (hb11.up (((hu19.out.trans hm77.out).trans hu89.out).sto (Nat.le_trans ((Nat.le_trans (hu19.out.size) hm77.out.size)) lbb87.out) hs91.out))
  have h104 := (h58.up (hu89.out.sto (Nat.le_trans (Nat.le_refl _) lbb87.out) hs91.out))
  have h105 := (h59.up (hu89.out.sto (Nat.le_trans (Nat.le_refl _) lbb87.out) hs91.out))
  by_cases c95 : (t81 == a2_0 && t82 == a2_1) = true
  ·
   rw [if_pos c95] at H
   have c95n : (!t81 == a2_0 || !t82 == a2_1) = false := by simp only [← Bool.not_and, c95, Bool.not_true, Bool.not_false]
   have HL106 := Aside0.mk H
   clear H
   try simp only [c95, c95n, Bool.not_true, Bool.not_false]
   refine wp_cond_true rfl ?_
   refine wp_exit ?_
   refine hK79 _ _ ?_
   refine wp_region_lit ?_
   iterate 2 (refine wpp fun k h=>?_;go_simp;apply h;clear h k)
   refine wln (hK72 _ _ ?_)
   go_roundg k69
   case measure => exact Nat.lt_succ_self _
   case rel => exact ⟨wrap64 (x46 + 1), x50, P51, q52, x53, (by first | rfl | simp), HL106, ⟨by have := hk70.out; omega⟩, ⟨((hm77.out.trans hu89.out).sto (Nat.le_trans (hm77.out.size) lbb87.out) hs91.out)⟩, ⟨hm99.out⟩, h104, h105, (h60.up (hu89.out.sto (Nat.le_trans (Nat.le_refl _) lbb87.out) hs91.out)), (h61.up (hu89.out.sto (Nat.le_trans (Nat.le_refl _) lbb87.out) hs91.out)), ⟨hn62.out⟩, ⟨hn63.out⟩, ⟨hn64.out⟩, ⟨hn65.out⟩, ⟨hn66.out⟩, ⟨hn67.out⟩, ⟨hn68.out⟩⟩
  rw [if_neg c95] at H; replace c95 := Bool.eq_false_iff.mpr c95
  have c95n : (!t81 == a2_0 || !t82 == a2_1) = true := by simp only [← Bool.not_and, c95, Bool.not_true, Bool.not_false]
  obtain ⟨⟨t108, t109, t110⟩,A111,H⟩:=bnd H;try dsimp only at H
  obtain ⟨t121,A122,H⟩:=bnd H;try dsimp only at H
  try simp only [c95, c95n, Bool.not_true, Bool.not_false]
  refine wp_cond_false rfl ?_
  refine wp_skip ?_
  refine hK93 _ _ ?_
  refine wsr fun _ hK107=>?_
  have cl0 := h100.cell (o := 0) rfl
  refine wpp fun k h=>?_;go_simp;apply h;clear h k
  clear cl0
  have cl0 := h101.cell (o := 0) rfl
  refine wpp fun k h=>?_;go_simp;apply h;clear h k
  clear cl0
  have cl0 := h102.cell (o := 0) rfl
  have cl1 := h102.cell (o := 1) rfl
  have cl2 := h102.cell (o := 2) rfl
  refine wpp fun k h=>?_;go_simp;apply h;clear h k
  clear cl0 cl1 cl2
  have cl0 := hb92.cell (o := 0) rfl
  have cl1 := hb92.cell (o := 1) rfl
  refine wpp fun k h=>?_;go_simp;apply h;clear h k
  clear cl0 cl1
  refine stc (impl_tangent.calls K a0 a1 a2_0 a2_1 a2_2 t81 t82 t108 t109 t110 w90  A111.out) ?_
  intro w112 hu113
  simp only[nm]
  refine stp (cs := [.int .i64 0, .int .i64 0, .int .i64 0]) (T := 31) ?_
  intro b114 w115 hu116 lbb114 ltb114 hb114
  simp only[nm]
  refine stw [.int .i64 t108, .int .i64 t109, .int .i64 t110] hb114 rfl rfl rfl rfl rfl (by kernel_rfl) rfl rfl ?_
  intro w117 hs118 hb119
  refine wln (hK107 _ _ ?_)
  refine wsr fun _ hK120=>?_
  have cl0 := (h100.up ((hu113.out.trans hu116.out).sto (Nat.le_trans (hu113.out.size) lbb114.out) hs118.out)).cell (o := 0) rfl
  refine wpp fun k h=>?_;go_simp;apply h;clear h k
  clear cl0
  have cl0 := (h103.up ((hu113.out.trans hu116.out).sto (Nat.le_trans (hu113.out.size) lbb114.out) hs118.out)).cell (o := 0) rfl
  have cl1 := (h103.up ((hu113.out.trans hu116.out).sto (Nat.le_trans (hu113.out.size) lbb114.out) hs118.out)).cell (o := 1) rfl
  refine wpp fun k h=>?_;go_simp;apply h;clear h k
  clear cl0 cl1
  have cl0 := hb119.cell (o := 0) rfl
  have cl1 := hb119.cell (o := 1) rfl
  have cl2 := hb119.cell (o := 2) rfl
  refine wpp fun k h=>?_;go_simp;apply h;clear h k
  clear cl0 cl1 cl2
  refine stc (impl_isOn.calls K a0 a3_0 a3_1 t108 t109 t110 t121 w117  A122.out) ?_
  intro w123 hu124
  simp only[nm]
  refine wpp fun k h=>?_;go_simp;apply h;clear h k
  have hm126 := Aside0.mk (((hu113.out.trans hu116.out).sto (Nat.le_trans (hu113.out.size) lbb114.out) hs118.out).trans hu124.out)
  have hm127 := Aside0.mk (((hm77.out.trans hu89.out).sto (Nat.le_trans (hm77.out.size) lbb87.out) hs91.out).trans hm126.out)
  by_cases c125 : (t121) = true
  rotate_left
  ·
   rw [if_neg c125] at H; replace c125 := Bool.eq_false_iff.mpr c125
   subst c125
   have HL180 := Aside0.mk H
   clear H
   refine step_no rfl ?_
   simp only[nm]
   refine step_no rfl ?_
   simp only[nm]
   refine step_no rfl ?_
   simp only[nm]
   refine step_no rfl ?_
   simp only[nm]
   refine wpp fun k h=>?_;go_simp;apply h;clear h k
   refine wln (hK120 _ _ ?_)
   refine wp_cond_false rfl ?_
   refine wp_skip ?_
   refine hK79 _ _ ?_
   refine wp_region_lit ?_
   iterate 2 (refine wpp fun k h=>?_;go_simp;apply h;clear h k)
   refine wln (hK72 _ _ ?_)
   go_roundg k69
   case measure => exact Nat.lt_succ_self _
   case rel => exact ⟨wrap64 (x46 + 1), x50, P51, q52, x53, (by first | rfl | simp), HL180, ⟨by have := hk70.out; omega⟩, ⟨hm127.out⟩, ⟨(Nat.le_trans (hm99.out) hm126.out.size)⟩, (h104.up hm126.out), (h105.up hm126.out), (h60.up ((hu89.out.sto (Nat.le_trans (Nat.le_refl _) lbb87.out) hs91.out).trans hm126.out)), (h61.up ((hu89.out.sto (Nat.le_trans (Nat.le_refl _) lbb87.out) hs91.out).trans hm126.out)), ⟨hn62.out⟩, ⟨hn63.out⟩, ⟨hn64.out⟩, ⟨hn65.out⟩, ⟨hn66.out⟩, ⟨hn67.out⟩, ⟨hn68.out⟩⟩
  rw [if_pos c125] at H
  subst c125
  refine wpList_step fun k h=>?_;go_simp;apply h;clear h k
  have cl0 := (hb119.up hu124.out).cell (o := 0) rfl
  have cl1 := (hb119.up hu124.out).cell (o := 1) rfl
  have cl2 := (hb119.up hu124.out).cell (o := 2) rfl
  refine wpList_step fun k h=>?_;go_simp;apply h;clear h k
  clear cl0 cl1 cl2
  have hl_ := run_lookup3 (h104.up hm126.out) t108 t109 t110
  refine wpList_step fun k h=>?_;go_simp;apply h;clear h k
  clear hl_
  refine wpList_step fun k h=>?_;go_simp;apply h;clear h k
  refine wpp fun k h=>?_;go_simp;apply h;clear h k
  refine wln (hK120 _ _ ?_)
  by_cases c128 : (memL x53 (t108, t109, t110)) = true
  ·
   rw [if_pos c128] at H
   have HL129 := Aside0.mk H
   clear H
   try simp only [c128, Bool.not_true, Bool.not_false]
   refine wp_cond_false rfl ?_
   refine wp_skip ?_
   refine hK79 _ _ ?_
   refine wp_region_lit ?_
   iterate 2 (refine wpp fun k h=>?_;go_simp;apply h;clear h k)
   refine wln (hK72 _ _ ?_)
   go_roundg k69
   case measure => exact Nat.lt_succ_self _
   case rel => exact ⟨wrap64 (x46 + 1), x50, P51, q52, x53, (by first | rfl | simp), HL129, ⟨by have := hk70.out; omega⟩, ⟨hm127.out⟩, ⟨(Nat.le_trans (hm99.out) hm126.out.size)⟩, (h104.up hm126.out), (h105.up hm126.out), (h60.up ((hu89.out.sto (Nat.le_trans (Nat.le_refl _) lbb87.out) hs91.out).trans hm126.out)), (h61.up ((hu89.out.sto (Nat.le_trans (Nat.le_refl _) lbb87.out) hs91.out).trans hm126.out)), ⟨hn62.out⟩, ⟨hn63.out⟩, ⟨hn64.out⟩, ⟨hn65.out⟩, ⟨hn66.out⟩, ⟨hn67.out⟩, ⟨hn68.out⟩⟩
  rw [if_neg c128] at H; replace c128 := Bool.eq_false_iff.mpr c128
  try simp only [c128, Bool.not_true, Bool.not_false]
  refine wp_cond_true rfl ?_
  refine wsr fun _ hK130=>?_
  refine wpp fun k h=>?_;go_simp;apply h;clear h k
  have cl0 := (hb119.up hu124.out).cell (o := 0) rfl
  have cl1 := (hb119.up hu124.out).cell (o := 1) rfl
  have cl2 := (hb119.up hu124.out).cell (o := 2) rfl
  refine wpp fun k h=>?_;go_simp;apply h;clear h k
  clear cl0 cl1 cl2
  obtain ⟨w131, hr_, hs, hb133⟩ := run_update3 (h104.up hm126.out) t108 t109 t110 (by assumption)
  refine step_skip (W' := w131) rfl rfl (by go_simp) ?_
  clear hr_
  have hs132 := Aside0.mk hs
  clear hs
  have h138 := (h105.up hm126.out).sto hs132.out (Ne.symm (Nat.ne_of_lt (Nat.lt_of_lt_of_le (Nat.lt_of_lt_of_le ltb25.out (hu31.out.size)) lbb32.out)))
  have h139 := (h60.up ((hu89.out.sto (Nat.le_trans (Nat.le_refl _) lbb87.out) hs91.out).trans hm126.out)).sto hs132.out (fun k hk => Ne.symm ((fun k hk => Nat.ne_of_lt (Nat.lt_of_lt_of_le (Nat.lt_of_lt_of_le ltb25.out ((Nat.le_trans ((Nat.le_trans (hu31.out.size) hu34.out.size)) (Nat.le_of_eq hs36.out.size.symm)))) ((fun k hk => Nat.le_trans (Nat.le_refl _) (ht40.lt k hk).1) k hk))) k hk))
  have h140 := (h61.up ((hu89.out.sto (Nat.le_trans (Nat.le_refl _) lbb87.out) hs91.out).trans hm126.out)).sto hs132.out hn66.out
  have h141 := (hb119.up hu124.out).sto hs132.out (Ne.symm (Nat.ne_of_lt (Nat.lt_of_lt_of_le (Nat.lt_of_lt_of_le ltb25.out ((Nat.le_trans ((Nat.le_trans ((Nat.le_trans ((Nat.le_trans ((Nat.le_trans ((Nat.le_trans ((Nat.le_trans (hu31.out.size) hu34.out.size)) (Nat.le_of_eq hs36.out.size.symm))) hu45.out.size)) hz56.out)) hu89.out.size)) (Nat.le_of_eq hs91.out.size.symm))) hu113.out.size))) lbb114.out)))
  refine wln (hK130 _ _ ?_)
  refine wp_region_lit ?_
  have cl0 := h138.cell (o := 0) rfl
  refine wpp fun k h=>?_;go_simp;apply h;clear h k
  clear cl0
  have cl0 := h141.cell (o := 0) rfl
  have cl1 := h141.cell (o := 1) rfl
  have cl2 := h141.cell (o := 2) rfl
  refine wpp fun k h=>?_;go_simp;apply h;clear h k
  clear cl0 cl1 cl2
  refine step_new (cs := [.int .i64 t108, .int .i64 t109, .int .i64 t110]) (T := 31) (f := fun b => .slice (some ⟨b, 0, none⟩) 1 1) rfl (by go_simp <;> rfl) ?_
  intro b142 w143 hu lb hb142
  simp only[nm]
  clear lb
  have hu144 := Aside0.mk hu
  clear hu
  have hm149 := Aside0.mk (Nat.le_trans ((Nat.le_trans ((Nat.le_trans (hm99.out) hm126.out.size)) (Nat.le_of_eq hs132.out.size.symm))) hu144.out.size)
  by_cases c145 : (decide (x50.length ≤ 1000000)) = true
  rotate_left
  ·
   rw [if_neg c145] at H; replace c145 := Bool.eq_false_iff.mpr c145
   exact absurd H (by simp)
  rw [if_pos c145] at H
  have HL179 := Aside0.mk H
  clear H
  try simp only [c145, Bool.not_true, Bool.not_false]
  have hO0 := Aside0.mk (h140.up hu144.out)
  refine step_append e3 (z := .agg #[.int .i64 0, .int .i64 0, .int .i64 0]) (bytes := 24) (base := w26.heap.size) (xs := x50) (ys := [(t108, t109, t110)]) wn _ _ rfl rfl (by kernel_rfl) rfl (by decide) rfl rfl rfl hO0.out (Rd.of_blk (E := e3) (xs := [(t108, t109, t110)]) (o := 0) hb142 (by simp) (fun j u hu => by revert hu;rcases j with _ | _ | _ | j <;> simp [Enc.flat, e3])) ((Nat.le_trans ((Nat.le_trans ((Nat.le_trans ((Nat.le_trans ((Nat.le_trans ((Nat.le_trans ((Nat.le_trans ((Nat.le_trans ((Nat.le_trans (hu31.out.size) hu34.out.size)) (Nat.le_of_eq hs36.out.size.symm))) hu45.out.size)) hz56.out)) hu89.out.size)) (Nat.le_of_eq hs91.out.size.symm))) hm126.out.size)) (Nat.le_of_eq hs132.out.size.symm))) hu144.out.size)) (by have h0_ := (of_decide_eq_true (by assumption) : x50.length ≤ 1000000); (try simp only [List.length_cons, List.length_nil]); omega) ?_
  intro P150 q151 w152 h154 hg hat
  have hg155 := Aside0.mk hg
  have hat156 := Aside0.mk hat
  simp only[nm]
  have lb157 := Aside0.mk hO0.out.lt
  clear hO0 hg hat
  have h162 := (hb133.up hu144.out).grow hg155.out hn66.out
  have h163 := (h138.up hu144.out).grow hg155.out hn67.out
  have h164 := (h139.up hu144.out).grow hg155.out hn68.out
  have hB0 := h163
  have cl0 := hB0.cell (o := 0) rfl
  have fr0 := hB0.free 0
  refine step_store (b := b32) (cs' := [.slice P150 ((x50 ++ [(t108, t109, t110)]).length) q151]) (T := 50) (W' := (w152.setCell ⟨b32, 0, none⟩ (.slice P150 ((x50 ++ [(t108, t109, t110)]).length) q151))) rfl rfl (by go_simp <;> rfl) ((Sto.refl _ _).setCell 0 _) ((hB0).setCell 0 _) ?_
  clear hB0 cl0 fr0
  intro w167 hs hb169
  have hs168 := Aside0.mk hs
  clear hs
  have h174 := h162.sto hs168.out (Nat.ne_of_lt (Nat.lt_of_lt_of_le (Nat.lt_of_lt_of_le ltb25.out (hu31.out.size)) lbb32.out))
  have h175 := h164.sto hs168.out (fun k hk => Ne.symm ((fun k hk => Nat.ne_of_lt (Nat.lt_of_lt_of_le (Nat.lt_of_lt_of_le ltb32.out ((Nat.le_of_eq hs36.out.size.symm))) ((fun k hk => Nat.le_trans (Nat.le_refl _) (ht40.lt k hk).1) k hk))) k hk))
  have h178 := h154.sto hs168.out (fun k hk => hat156.out.elim (fun e => hn67.out k (e.symm.trans hk)) (fun g => Nat.ne_of_gt (Nat.lt_of_lt_of_le (Nat.lt_of_lt_of_le ltb32.out ((Nat.le_trans ((Nat.le_trans ((Nat.le_trans ((Nat.le_trans ((Nat.le_trans ((Nat.le_trans ((Nat.le_trans ((Nat.le_of_eq hs36.out.size.symm)) hu45.out.size)) hz56.out)) hu89.out.size)) (Nat.le_of_eq hs91.out.size.symm))) hm126.out.size)) (Nat.le_of_eq hs132.out.size.symm))) hu144.out.size))) (g k hk))))
  refine wln (hK79 _ _ ?_)
  refine wp_region_lit ?_
  iterate 2 (refine wpp fun k h=>?_;go_simp;apply h;clear h k)
  refine wln (hK72 _ _ ?_)
  go_roundg k69
  case measure => exact Nat.lt_succ_self _
  case rel => exact ⟨wrap64 (x46 + 1), (x50 ++ [(t108, t109, t110)]), P150, q151, (x53 ++ [(t108, t109, t110)]), (by first | rfl | simp), HL179, ⟨by have := hk70.out; omega⟩, ⟨((((hm127.out.sto (Nat.le_trans (Nat.le_refl _) lbb25.out) hs132.out).trans hu144.out).grow hg155.out (fun k hk => Nat.le_trans (hu27.out.size) ((fun k hk => (lb157.out k hk).1) k hk))).sto (Nat.le_trans ((Nat.le_trans (hu27.out.size) hu31.out.size)) lbb32.out) hs168.out)⟩, ⟨(Nat.le_trans ((Nat.le_trans (hm149.out) hg155.out.size)) (Nat.le_of_eq hs168.out.size.symm))⟩, h174, hb169, h175, h178, ⟨(fun k hk => hat156.out.elim (fun e => hn62.out k (e.symm.trans hk)) (fun g => Nat.ne_of_gt (Nat.lt_of_lt_of_le (Nat.lt_of_lt_of_le ltb2.out ((Nat.le_trans ((Nat.le_trans ((Nat.le_trans ((Nat.le_trans ((Nat.le_trans ((Nat.le_trans ((Nat.le_trans ((Nat.le_trans ((Nat.le_trans (hu7.out.size) hu10.out.size)) hu13.out.size)) hu19.out.size)) hm77.out.size)) hu89.out.size)) (Nat.le_of_eq hs91.out.size.symm))) hm126.out.size)) (Nat.le_of_eq hs132.out.size.symm))) hu144.out.size))) (g k hk))))⟩, ⟨(fun k hk => hat156.out.elim (fun e => hn63.out k (e.symm.trans hk)) (fun g => Nat.ne_of_gt (Nat.lt_of_lt_of_le (Nat.lt_of_lt_of_le ltb5.out ((Nat.le_trans ((Nat.le_trans ((Nat.le_trans ((Nat.le_trans ((Nat.le_trans ((Nat.le_trans ((Nat.le_trans ((Nat.le_trans (hu10.out.size) hu13.out.size)) hu19.out.size)) hm77.out.size)) hu89.out.size)) (Nat.le_of_eq hs91.out.size.symm))) hm126.out.size)) (Nat.le_of_eq hs132.out.size.symm))) hu144.out.size))) (g k hk))))⟩, ⟨(fun k hk => hat156.out.elim (fun e => hn64.out k (e.symm.trans hk)) (fun g => Nat.ne_of_gt (Nat.lt_of_lt_of_le (Nat.lt_of_lt_of_le ltb8.out ((Nat.le_trans ((Nat.le_trans ((Nat.le_trans ((Nat.le_trans ((Nat.le_trans ((Nat.le_trans ((Nat.le_trans (hu13.out.size) hu19.out.size)) hm77.out.size)) hu89.out.size)) (Nat.le_of_eq hs91.out.size.symm))) hm126.out.size)) (Nat.le_of_eq hs132.out.size.symm))) hu144.out.size))) (g k hk))))⟩, ⟨(fun k hk => hat156.out.elim (fun e => hn65.out k (e.symm.trans hk)) (fun g => Nat.ne_of_gt (Nat.lt_of_lt_of_le (Nat.lt_of_lt_of_le ltb11.out ((Nat.le_trans ((Nat.le_trans ((Nat.le_trans ((Nat.le_trans ((Nat.le_trans ((Nat.le_trans (hu19.out.size) hm77.out.size)) hu89.out.size)) (Nat.le_of_eq hs91.out.size.symm))) hm126.out.size)) (Nat.le_of_eq hs132.out.size.symm))) hu144.out.size))) (g k hk))))⟩, ⟨(fun k hk => hat156.out.elim (fun e => hn66.out k (e.symm.trans hk)) (fun g => Nat.ne_of_gt (Nat.lt_of_lt_of_le (Nat.lt_of_lt_of_le ltb25.out ((Nat.le_trans ((Nat.le_trans ((Nat.le_trans ((Nat.le_trans ((Nat.le_trans ((Nat.le_trans ((Nat.le_trans ((Nat.le_trans ((Nat.le_trans (hu31.out.size) hu34.out.size)) (Nat.le_of_eq hs36.out.size.symm))) hu45.out.size)) hz56.out)) hu89.out.size)) (Nat.le_of_eq hs91.out.size.symm))) hm126.out.size)) (Nat.le_of_eq hs132.out.size.symm))) hu144.out.size))) (g k hk))))⟩, ⟨(fun k hk => hat156.out.elim (fun e => hn67.out k (e.symm.trans hk)) (fun g => Nat.ne_of_gt (Nat.lt_of_lt_of_le (Nat.lt_of_lt_of_le ltb32.out ((Nat.le_trans ((Nat.le_trans ((Nat.le_trans ((Nat.le_trans ((Nat.le_trans ((Nat.le_trans ((Nat.le_trans ((Nat.le_of_eq hs36.out.size.symm)) hu45.out.size)) hz56.out)) hu89.out.size)) (Nat.le_of_eq hs91.out.size.symm))) hm126.out.size)) (Nat.le_of_eq hs132.out.size.symm))) hu144.out.size))) (g k hk))))⟩, ⟨(fun k l hk hl => hat156.out.elim (fun e => hn68.out k l (e.symm.trans hk) hl) (fun g => Nat.ne_of_gt (Nat.lt_of_lt_of_le ((fun k hk => Nat.lt_of_lt_of_le (ht40.lt k hk).2 (hm149.out)) l hl) (g k hk))))⟩⟩

set_option maxHeartbeats 40000000 in
set_option maxRecDepth 100000 in
theorem spec_l06Before.calls (K : Nat) (a0_0 : Int) (a0_1 : Int) (a0_2 : Int) (a1_0 : Int) (a1_1 : Int) (a1_2 : Int) (r0 : Bool) (w : World)  (h : spec_l06Before.f K a0_0 a0_1 a0_2 a1_0 a1_1 a1_2 = some (r0)) :
    Calls Tryz.prog 111 #[.agg #[.int .i64 a0_0, .int .i64 a0_1, .int .i64 a0_2], .agg #[.int .i64 a1_0, .int .i64 a1_1, .int .i64 a1_2]] w fun e w' => e = .returned (.bool r0) ∧ Up w w' := by
 have H : ((if (a0_0 == a1_0) = true then (if (a0_1 == a1_1) = true then (if (a0_2 == a1_2) = true then some false else some (decide (a0_2 < a1_2))) else some (decide (a0_1 < a1_1))) else some (decide (a0_0 < a1_0))) : Option (Bool)) = some (r0) := h
 clear h
 go_enter Tryz.func111, Tryz.ntmps111
 refine wp_hide (fun Qf hQf => ?_)
 refine wsr fun _ hK1=>?_
 refine stp (cs := [.int .i64 a0_0, .int .i64 a0_1, .int .i64 a0_2]) (T := 31) ?_
 intro b2 w3 hu4 lbb2 ltb2 hb2
 simp only[nm]
 refine stp (cs := [.int .i64 a1_0, .int .i64 a1_1, .int .i64 a1_2]) (T := 31) ?_
 intro b5 w6 hu7 lbb5 ltb5 hb5
 simp only[nm]
 refine wpp fun k h=>?_;go_simp;apply h;clear h k
 refine wln (hK1 _ _ ?_)
 refine wp_seq_k fun K8 hK8=>?_
 refine wsr fun _ hK9=>?_
 refine wpp fun k h=>?_;go_simp;apply h;clear h k
 refine wln (hK9 _ _ ?_)
 refine wp_block ?_
 refine wp_loop_rounds 40 ?_
 refine rounds_k (fun K10 hK10 => ?_)
 refine wp_seq_k fun K11 hK11=>?_
 refine wsr fun _ hK12=>?_
 iterate 2 (refine wpp fun k h=>?_;go_simp;apply h;clear h k)
 refine wln (hK12 _ _ ?_)
 refine wp_cond_true rfl ?_
 refine wp_skip ?_
 refine hK11 _ _ ?_
 refine wp_seq_k fun K13 hK13=>?_
 refine wp_block ?_
 refine wp_seq_k fun K14 hK14=>?_
 refine' wp_region_up 7 [Slot.det _, Slot.det _, Slot.det _, Slot.det _, Slot.det _, Slot.det _, Slot.det _] (by kernel_rfl) (by kernel_rfl) ?main
 case main =>
  simp only [List.take_succ_cons, List.take_zero]
  refine wpK_ops rfl (fun w1 hu => ?_) ?_
  · clear hu
    go_simp
    first | done | rfl
  simp only[nm]
  refine wpK_ops rfl (fun w1 hu => ?_) ?_
  · clear hu
    go_simp
    first | done | rfl
  simp only[nm]
  refine wpK_ops rfl (fun w1 hu => ?_) ?_
  · have cl0 := ((hb2.up hu7.out).up ((Up.refl _).drew.trans hu)).cell (o := 0) rfl
    go_simp
    first | done | rfl
  simp only[nm]
  refine wpK_ops rfl (fun w1 hu => ?_) ?_
  · clear hu
    go_simp
    first | done | rfl
  simp only[nm]
  refine wpK_ops rfl (fun w1 hu => ?_) ?_
  · clear hu
    go_simp
    first | done | rfl
  simp only[nm]
  refine wpK_ops rfl (fun w1 hu => ?_) ?_
  · have cl0 := (hb5.up ((Up.refl _).drew.trans hu)).cell (o := 0) rfl
    go_simp
    first | done | rfl
  simp only[nm]
  refine wpK_ops rfl (fun w1 hu => ?_) ?_
  · clear hu
    go_simp
    first | done | rfl
  simp only[nm]
  refine wpK_nil ?_
  intro w15 hu hap
  simp only [List.drop_succ_cons, List.drop_zero]
  replace hu := (Up.refl _).drew.trans hu
  clear hap
  have hu16 := Aside0.mk hu
  clear hu
  refine wln (hK14 _ _ ?_)
  have hm18 := Aside0.mk ((hu4.out.trans hu7.out).trans hu16.out)
  by_cases c17 : (a0_0 == a1_0) = true
  rotate_left
  ·
   rw [if_neg c17] at H; replace c17 := Bool.eq_false_iff.mpr c17
   have c17n : (a0_0 != a1_0) = true := by rw [bne, c17]; rfl
   have c17p : ¬ a0_0 = a1_0 := fun e => by simp [e] at c17
   obtain rfl := Option.some.inj H
   try simp only [c17, c17n, Bool.not_true, Bool.not_false]
   refine wp_cond_true rfl ?_
   refine wp_seq_k fun K46 hK46=>?_
   refine' wp_region_up 7 [Slot.det _, Slot.det _, Slot.det _, Slot.det _, Slot.det _, Slot.det _, Slot.det _] (by kernel_rfl) (by kernel_rfl) ?main
   case main =>
    simp only [List.take_succ_cons, List.take_zero]
    refine wpK_ops rfl (fun w1 hu => ?_) ?_
    · clear hu
      go_simp
      first | done | rfl
    simp only[nm]
    refine wpK_ops rfl (fun w1 hu => ?_) ?_
    · clear hu
      go_simp
      first | done | rfl
    simp only[nm]
    refine wpK_ops rfl (fun w1 hu => ?_) ?_
    · have cl0 := ((hb2.up (hu7.out.trans hu16.out)).up ((Up.refl _).drew.trans hu)).cell (o := 0) rfl
      go_simp
      first | done | rfl
    simp only[nm]
    refine wpK_ops rfl (fun w1 hu => ?_) ?_
    · clear hu
      go_simp
      first | done | rfl
    simp only[nm]
    refine wpK_ops rfl (fun w1 hu => ?_) ?_
    · clear hu
      go_simp
      first | done | rfl
    simp only[nm]
    refine wpK_ops rfl (fun w1 hu => ?_) ?_
    · have cl0 := ((hb5.up hu16.out).up ((Up.refl _).drew.trans hu)).cell (o := 0) rfl
      go_simp
      first | done | rfl
    simp only[nm]
    refine wpK_ops rfl (fun w1 hu => ?_) ?_
    · clear hu
      go_simp
      first | done | rfl
    simp only[nm]
    refine wpK_nil ?_
    intro w47 hu hap
    simp only [List.drop_succ_cons, List.drop_zero]
    replace hu := (Up.refl _).drew.trans hu
    clear hap
    have hu48 := Aside0.mk hu
    clear hu
    refine wpp fun k h=>?_;go_simp;apply h;clear h k
    refine wln (hK46 _ _ ?_)
    refine wp_ret ?_
    refine hQf _ _ _ ?_
    exact bpr (v := .bool (decide (a0_0 < a1_0))) ⟨rfl, (hm18.out.trans hu48.out)⟩
  rw [if_pos c17] at H
  have c17n : (a0_0 != a1_0) = false := by rw [bne, c17]; rfl
  try simp only [c17, c17n, Bool.not_true, Bool.not_false]
  refine wp_cond_false rfl ?_
  refine wp_skip ?_
  refine hK13 _ _ ?_
  refine wp_region_lit ?_
  iterate 2 (refine wpp fun k h=>?_;go_simp;apply h;clear h k)
  try simp only [show wrap64 1 = 1 from wlit rfl]
  refine wpp fun k h=>?_;go_simp;apply h;clear h k
  refine wln (hK10 _ _ ?_)
  refine rounds_k (fun K19 hK19 => ?_)
  refine wp_seq_k fun K20 hK20=>?_
  refine wsr fun _ hK21=>?_
  iterate 2 (refine wpp fun k h=>?_;go_simp;apply h;clear h k)
  refine wln (hK21 _ _ ?_)
  refine wp_cond_true rfl ?_
  refine wp_skip ?_
  refine hK20 _ _ ?_
  refine wp_seq_k fun K22 hK22=>?_
  refine wp_block ?_
  refine wp_seq_k fun K23 hK23=>?_
  refine' wp_region_up 7 [Slot.det _, Slot.det _, Slot.det _, Slot.det _, Slot.det _, Slot.det _, Slot.det _] (by kernel_rfl) (by kernel_rfl) ?main
  case main =>
   simp only [List.take_succ_cons, List.take_zero]
   refine wpK_ops rfl (fun w1 hu => ?_) ?_
   · clear hu
     go_simp
     first | done | rfl
   simp only[nm]
   refine wpK_ops rfl (fun w1 hu => ?_) ?_
   · clear hu
     go_simp
     first | done | rfl
   simp only[nm]
   refine wpK_ops rfl (fun w1 hu => ?_) ?_
   · have cl0 := ((hb2.up (hu7.out.trans hu16.out)).up ((Up.refl _).drew.trans hu)).cell (o := 1) rfl
     go_simp
     first | done | rfl
   simp only[nm]
   refine wpK_ops rfl (fun w1 hu => ?_) ?_
   · clear hu
     go_simp
     first | done | rfl
   simp only[nm]
   refine wpK_ops rfl (fun w1 hu => ?_) ?_
   · clear hu
     go_simp
     first | done | rfl
   simp only[nm]
   refine wpK_ops rfl (fun w1 hu => ?_) ?_
   · have cl0 := ((hb5.up hu16.out).up ((Up.refl _).drew.trans hu)).cell (o := 1) rfl
     go_simp
     first | done | rfl
   simp only[nm]
   refine wpK_ops rfl (fun w1 hu => ?_) ?_
   · clear hu
     go_simp
     first | done | rfl
   simp only[nm]
   refine wpK_nil ?_
   intro w24 hu hap
   simp only [List.drop_succ_cons, List.drop_zero]
   replace hu := (Up.refl _).drew.trans hu
   clear hap
   have hu25 := Aside0.mk hu
   clear hu
   refine wln (hK23 _ _ ?_)
   by_cases c26 : (a0_1 == a1_1) = true
   rotate_left
   ·
    rw [if_neg c26] at H; replace c26 := Bool.eq_false_iff.mpr c26
    have c26n : (a0_1 != a1_1) = true := by rw [bne, c26]; rfl
    have c26p : ¬ a0_1 = a1_1 := fun e => by simp [e] at c26
    obtain rfl := Option.some.inj H
    try simp only [c26, c26n, Bool.not_true, Bool.not_false]
    refine wp_cond_true rfl ?_
    refine wp_seq_k fun K43 hK43=>?_
    refine' wp_region_up 7 [Slot.det _, Slot.det _, Slot.det _, Slot.det _, Slot.det _, Slot.det _, Slot.det _] (by kernel_rfl) (by kernel_rfl) ?main
    case main =>
     simp only [List.take_succ_cons, List.take_zero]
     refine wpK_ops rfl (fun w1 hu => ?_) ?_
     · clear hu
       go_simp
       first | done | rfl
     simp only[nm]
     refine wpK_ops rfl (fun w1 hu => ?_) ?_
     · clear hu
       go_simp
       first | done | rfl
     simp only[nm]
     refine wpK_ops rfl (fun w1 hu => ?_) ?_
     · have cl0 := ((hb2.up ((hu7.out.trans hu16.out).trans hu25.out)).up ((Up.refl _).drew.trans hu)).cell (o := 1) rfl
       go_simp
       first | done | rfl
     simp only[nm]
     refine wpK_ops rfl (fun w1 hu => ?_) ?_
     · clear hu
       go_simp
       first | done | rfl
     simp only[nm]
     refine wpK_ops rfl (fun w1 hu => ?_) ?_
     · clear hu
       go_simp
       first | done | rfl
     simp only[nm]
     refine wpK_ops rfl (fun w1 hu => ?_) ?_
     · have cl0 := ((hb5.up (hu16.out.trans hu25.out)).up ((Up.refl _).drew.trans hu)).cell (o := 1) rfl
       go_simp
       first | done | rfl
     simp only[nm]
     refine wpK_ops rfl (fun w1 hu => ?_) ?_
     · clear hu
       go_simp
       first | done | rfl
     simp only[nm]
     refine wpK_nil ?_
     intro w44 hu hap
     simp only [List.drop_succ_cons, List.drop_zero]
     replace hu := (Up.refl _).drew.trans hu
     clear hap
     have hu45 := Aside0.mk hu
     clear hu
     refine wpp fun k h=>?_;go_simp;apply h;clear h k
     refine wln (hK43 _ _ ?_)
     refine wp_ret ?_
     refine hQf _ _ _ ?_
     exact bpr (v := .bool (decide (a0_1 < a1_1))) ⟨rfl, ((hm18.out.trans hu25.out).trans hu45.out)⟩
   rw [if_pos c26] at H
   have c26n : (a0_1 != a1_1) = false := by rw [bne, c26]; rfl
   try simp only [c26, c26n, Bool.not_true, Bool.not_false]
   refine wp_cond_false rfl ?_
   refine wp_skip ?_
   refine hK22 _ _ ?_
   refine wp_region_lit ?_
   iterate 2 (refine wpp fun k h=>?_;go_simp;apply h;clear h k)
   try simp only [show wrap64 2 = 2 from wlit rfl]
   refine wpp fun k h=>?_;go_simp;apply h;clear h k
   refine wln (hK19 _ _ ?_)
   refine rounds_k (fun K27 hK27 => ?_)
   refine wp_seq_k fun K28 hK28=>?_
   refine wsr fun _ hK29=>?_
   iterate 2 (refine wpp fun k h=>?_;go_simp;apply h;clear h k)
   refine wln (hK29 _ _ ?_)
   refine wp_cond_true rfl ?_
   refine wp_skip ?_
   refine hK28 _ _ ?_
   refine wp_seq_k fun K30 hK30=>?_
   refine wp_block ?_
   refine wp_seq_k fun K31 hK31=>?_
   refine' wp_region_up 7 [Slot.det _, Slot.det _, Slot.det _, Slot.det _, Slot.det _, Slot.det _, Slot.det _] (by kernel_rfl) (by kernel_rfl) ?main
   case main =>
    simp only [List.take_succ_cons, List.take_zero]
    refine wpK_ops rfl (fun w1 hu => ?_) ?_
    · clear hu
      go_simp
      first | done | rfl
    simp only[nm]
    refine wpK_ops rfl (fun w1 hu => ?_) ?_
    · clear hu
      go_simp
      first | done | rfl
    simp only[nm]
    refine wpK_ops rfl (fun w1 hu => ?_) ?_
    · have cl0 := ((hb2.up ((hu7.out.trans hu16.out).trans hu25.out)).up ((Up.refl _).drew.trans hu)).cell (o := 2) rfl
      go_simp
      first | done | rfl
    simp only[nm]
    refine wpK_ops rfl (fun w1 hu => ?_) ?_
    · clear hu
      go_simp
      first | done | rfl
    simp only[nm]
    refine wpK_ops rfl (fun w1 hu => ?_) ?_
    · clear hu
      go_simp
      first | done | rfl
    simp only[nm]
    refine wpK_ops rfl (fun w1 hu => ?_) ?_
    · have cl0 := ((hb5.up (hu16.out.trans hu25.out)).up ((Up.refl _).drew.trans hu)).cell (o := 2) rfl
      go_simp
      first | done | rfl
    simp only[nm]
    refine wpK_ops rfl (fun w1 hu => ?_) ?_
    · clear hu
      go_simp
      first | done | rfl
    simp only[nm]
    refine wpK_nil ?_
    intro w32 hu hap
    simp only [List.drop_succ_cons, List.drop_zero]
    replace hu := (Up.refl _).drew.trans hu
    clear hap
    have hu33 := Aside0.mk hu
    clear hu
    refine wln (hK31 _ _ ?_)
    have h35 := (hb2.up (((hu7.out.trans hu16.out).trans hu25.out).trans hu33.out))
    by_cases c34 : (a0_2 == a1_2) = true
    ·
     rw [if_pos c34] at H
     have c34n : (a0_2 != a1_2) = false := by rw [bne, c34]; rfl
     obtain rfl := Option.some.inj H
     try simp only [c34, c34n, Bool.not_true, Bool.not_false]
     refine wp_cond_false rfl ?_
     refine wp_skip ?_
     refine hK30 _ _ ?_
     refine wp_region_lit ?_
     iterate 2 (refine wpp fun k h=>?_;go_simp;apply h;clear h k)
     try simp only [show wrap64 3 = 3 from wlit rfl]
     refine wpp fun k h=>?_;go_simp;apply h;clear h k
     refine wln (hK27 _ _ ?_)
     refine rounds_k (fun K36 hK36 => ?_)
     refine wp_seq_k fun K37 hK37=>?_
     refine wsr fun _ hK38=>?_
     iterate 2 (refine wpp fun k h=>?_;go_simp;apply h;clear h k)
     refine wln (hK38 _ _ ?_)
     refine wp_cond_false rfl ?_
     refine wp_exit ?_
     refine hK8 _ _ ?_
     refine wsr fun _ hK39=>?_
     refine wpp fun k h=>?_;go_simp;apply h;clear h k
     refine wln (hK39 _ _ ?_)
     refine wp_ret ?_
     refine hQf _ _ _ ?_
     exact bpr (v := .bool false) ⟨rfl, ((hm18.out.trans hu25.out).trans hu33.out)⟩
    rw [if_neg c34] at H; replace c34 := Bool.eq_false_iff.mpr c34
    have c34n : (a0_2 != a1_2) = true := by rw [bne, c34]; rfl
    have c34p : ¬ a0_2 = a1_2 := fun e => by simp [e] at c34
    obtain rfl := Option.some.inj H
    try simp only [c34, c34n, Bool.not_true, Bool.not_false]
    refine wp_cond_true rfl ?_
    refine wp_seq_k fun K40 hK40=>?_
    refine' wp_region_up 7 [Slot.det _, Slot.det _, Slot.det _, Slot.det _, Slot.det _, Slot.det _, Slot.det _] (by kernel_rfl) (by kernel_rfl) ?main
    case main =>
     simp only [List.take_succ_cons, List.take_zero]
     refine wpK_ops rfl (fun w1 hu => ?_) ?_
     · clear hu
       go_simp
       first | done | rfl
     simp only[nm]
     refine wpK_ops rfl (fun w1 hu => ?_) ?_
     · clear hu
       go_simp
       first | done | rfl
     simp only[nm]
     refine wpK_ops rfl (fun w1 hu => ?_) ?_
     · have cl0 := (h35.up ((Up.refl _).drew.trans hu)).cell (o := 2) rfl
       go_simp
       first | done | rfl
     simp only[nm]
     refine wpK_ops rfl (fun w1 hu => ?_) ?_
     · clear hu
       go_simp
       first | done | rfl
     simp only[nm]
     refine wpK_ops rfl (fun w1 hu => ?_) ?_
     · clear hu
       go_simp
       first | done | rfl
     simp only[nm]
     refine wpK_ops rfl (fun w1 hu => ?_) ?_
     · have cl0 := ((hb5.up ((hu16.out.trans hu25.out).trans hu33.out)).up ((Up.refl _).drew.trans hu)).cell (o := 2) rfl
       go_simp
       first | done | rfl
     simp only[nm]
     refine wpK_ops rfl (fun w1 hu => ?_) ?_
     · clear hu
       go_simp
       first | done | rfl
     simp only[nm]
     refine wpK_nil ?_
     intro w41 hu hap
     simp only [List.drop_succ_cons, List.drop_zero]
     replace hu := (Up.refl _).drew.trans hu
     clear hap
     have hu42 := Aside0.mk hu
     clear hu
     refine wpp fun k h=>?_;go_simp;apply h;clear h k
     refine wln (hK40 _ _ ?_)
     refine wp_ret ?_
     refine hQf _ _ _ ?_
     exact bpr (v := .bool (decide (a0_2 < a1_2))) ⟨rfl, (((hm18.out.trans hu25.out).trans hu33.out).trans hu42.out)⟩

set_option maxHeartbeats 40000000 in
set_option maxRecDepth 100000 in
theorem spec_l06Put.calls (K : Nat) (a0_A : Option Addr) (a0_c : Nat) (a0_B : Nat) (a0 : List (Int × Int × Int)) (a1_0 : Int) (a1_1 : Int) (a1_2 : Int) (r0 : List (Int × Int × Int)) (w : World) (ha0 : Own e3 31 w a0_B (.slice a0_A a0.length a0_c) a0) (hBa0 : a0_B ≤ w.heap.size) (h : spec_l06Put.f K a0 a1_0 a1_1 a1_2 = some (r0)) :
    Calls Tryz.prog 73 #[.slice a0_A a0.length a0_c, .agg #[.int .i64 a1_0, .int .i64 a1_1, .int .i64 a1_2]] w fun e w' => ∃ (Ar0 : Option Addr) (cr0 : Nat), e = .returned (.slice Ar0 r0.length cr0) ∧ Own e3 31 w' a0_B (.slice Ar0 r0.length cr0) r0 ∧ Up w w' := by
 have H : ((spec_l06Put.l0 K a0 a1_0 a1_1 a1_2 K (a0.length : Int)) : Option (List (Int × Int × Int))) = some (r0) := h
 clear h
 go_enter Tryz.func73, Tryz.ntmps73
 refine wp_hide (fun Qf hQf => ?_)
 refine wsr fun _ hK1=>?_
 refine stp (cs := [.int .i64 a1_0, .int .i64 a1_1, .int .i64 a1_2]) (T := 31) ?_
 intro b2 w3 hu4 lbb2 ltb2 hb2
 simp only[nm]
 refine wpp fun k h=>?_;go_simp;apply h;clear h k
 refine wln (hK1 _ _ ?_)
 refine wsr fun _ hK5=>?_
 iterate 3 (refine wpp fun k h=>?_;go_simp;apply h;clear h k)
 refine wln (hK5 _ _ ?_)
 refine wp_seq_k fun K6 hK6=>?_
 refine wp_block ?_
 have HL11 := Aside0.mk H
 clear H
 go_loopg [5] K (fun kq v5 w' => ∃ (x7 : Int), v5 = .int .i64 x7 ∧ Aside0 (spec_l06Put.l0 K a0 a1_0 a1_1 a1_2 kq x7 = some (r0)) ∧ Aside0 (kq ≤ K) ∧ Aside0 (Up w3 w') ∧ Aside0 (w3.heap.size ≤ w'.heap.size))
 case atStart => exact ⟨(a0.length : Int), (by first | rfl | simp), HL11, ⟨Nat.le_refl _⟩, ⟨(Up.refl _)⟩, ⟨Nat.le_refl _⟩⟩
 case round =>
  rename_i J14 K15 hJ14 hK15
  obtain ⟨x7, rfl, HL16, hk13, hu9, hz10⟩ := hrel
  obtain ⟨w8, rfl⟩ : ∃ wo : World, wo = wr := ⟨_, rfl⟩
  obtain ⟨k12, rfl⟩ | rfl : (∃ k, gk = k + 1) ∨ gk = 0 := by rcases gk with _ | k; exact .inr rfl; exact .inl ⟨k, rfl⟩
  case inr => exact absurd HL16.out (by simp [spec_l06Put.l0])
  have H := HL16.out
  clear HL16
  rw [spec_l06Put.l0] at H
  refine wp_seq_k fun K17 hK17=>?_
  refine wp_seq_k fun K18 hK18=>?_
  by_cases c19 : (decide (0 < x7)) = true
  rotate_left
  ·
   rw [if_neg c19] at H; replace c19 := Bool.eq_false_iff.mpr c19
   obtain ⟨t107,A108,H⟩:=bnd H;try dsimp only at H
   try simp only [c19, Bool.not_true, Bool.not_false]
   refine' wp_region_up 11 [Slot.det _, Slot.det _, Slot.det _, Slot.det undef, Slot.det undef, Slot.det undef, Slot.det undef, Slot.det undef, Slot.det undef, Slot.det undef, Slot.det _] (by kernel_rfl) (by kernel_rfl) ?main
   case main =>
    simp only [List.take_succ_cons, List.take_zero]
    refine wpK_ops rfl (fun w1 hu => ?_) ?_
    · clear hu
      go_simp
      first | done | rfl
    simp only[nm]
    refine wpK_ops rfl (fun w1 hu => ?_) ?_
    · clear hu
      go_simp
      first | done | rfl
    simp only[nm]
    refine wpK_ops rfl (fun w1 hu => ?_) ?_
    · clear hu
      go_simp
      first | done | rfl
    simp only[nm]
    refine wpK_no rfl ?_
    simp only[nm]
    refine wpK_no rfl ?_
    simp only[nm]
    refine wpK_no rfl ?_
    simp only[nm]
    refine wpK_no rfl ?_
    simp only[nm]
    refine wpK_no rfl ?_
    simp only[nm]
    refine wpK_no rfl ?_
    simp only[nm]
    refine wpK_no rfl ?_
    simp only[nm]
    refine wpK_ops rfl (fun w1 hu => ?_) ?_
    · clear hu
      go_simp
      first | done | rfl
    simp only[nm]
    refine wpK_nil ?_
    intro w98 hu hap
    simp only [List.drop_succ_cons, List.drop_zero]
    replace hu := (Up.refl _).drew.trans hu
    clear hap
    have hu99 := Aside0.mk hu
    clear hu
    refine wln (hK18 _ _ ?_)
    refine wp_cond_false rfl ?_
    refine wp_exit ?_
    refine hK6 _ _ ?_
    refine wp_seq_k fun K100 hK100=>?_
    refine wp_seq_k fun K101 hK101=>?_
    refine' wp_region_up 11 [Slot.det _, Slot.det _, Slot.det _, Slot.det undef, Slot.det undef, Slot.det undef, Slot.det undef, Slot.det undef, Slot.det undef, Slot.det undef, Slot.det _] (by kernel_rfl) (by kernel_rfl) ?main
    case main =>
     simp only [List.take_succ_cons, List.take_zero]
     refine wpK_ops rfl (fun w1 hu => ?_) ?_
     · clear hu
       go_simp
       first | done | rfl
     simp only[nm]
     refine wpK_ops rfl (fun w1 hu => ?_) ?_
     · clear hu
       go_simp
       first | done | rfl
     simp only[nm]
     refine wpK_ops rfl (fun w1 hu => ?_) ?_
     · clear hu
       go_simp
       first | done | rfl
     simp only[nm]
     refine wpK_no rfl ?_
     simp only[nm]
     refine wpK_no rfl ?_
     simp only[nm]
     refine wpK_no rfl ?_
     simp only[nm]
     refine wpK_no rfl ?_
     simp only[nm]
     refine wpK_no rfl ?_
     simp only[nm]
     refine wpK_no rfl ?_
     simp only[nm]
     refine wpK_no rfl ?_
     simp only[nm]
     refine wpK_ops rfl (fun w1 hu => ?_) ?_
     · clear hu
       go_simp
       first | done | rfl
     simp only[nm]
     refine wpK_nil ?_
     intro w102 hu hap
     simp only [List.drop_succ_cons, List.drop_zero]
     replace hu := (Up.refl _).drew.trans hu
     clear hap
     have hu103 := Aside0.mk hu
     clear hu
     refine wln (hK101 _ _ ?_)
     refine wp_cond_false rfl ?_
     refine wp_skip ?_
     refine hK100 _ _ ?_
     refine wp_seq_k fun K104 hK104=>?_
     have h109 := Rd.cutHi ((ha0.up (((hu4.out.trans hu9.out).trans hu99.out).trans hu103.out)).rd) A108.out
     have hm111 := Aside0.mk (Nat.le_trans ((Nat.le_trans ((Nat.le_trans (hu4.out.size) hz10.out)) hu99.out.size)) hu103.out.size)
     by_cases c110 : (decide (t107.length ≤ 1000000)) = true
     rotate_left
     ·
      rw [if_neg c110] at H; replace c110 := Bool.eq_false_iff.mpr c110
      exact absurd H (by simp)
     rw [if_pos c110] at H
     obtain ⟨t128,A129,H⟩:=bnd H;try dsimp only at H
     obtain ⟨t134,A135,H⟩:=bnd H;try dsimp only at H
     try simp only [c110, Bool.not_true, Bool.not_false]
     refine' wp_region_up 7 [Slot.any (SlTo 0 [] 31 w102.heap.size) false, Slot.det _, Slot.det _, Slot.det (.slice a0_A t107.length a0_c), Slot.any (RowTo e3 31 w102.heap.size t107 (fun v => v)) false, Slot.det _, Slot.any (SlTo 1 [.int .i64 a1_0, .int .i64 a1_1, .int .i64 a1_2] 31 w102.heap.size) false] (by kernel_rfl) (by kernel_rfl) ?main
     case main =>
      simp only [List.take_succ_cons, List.take_zero]
      refine wpK_any rfl (stab_sl _ _ _ _) (fun w1 hu _ => fresh_sl (by go_simp <;> rfl) ((Up.refl _).drew.trans hu).size) (fun v105 => ?_)
      simp only[nm]
      refine wpK_ops rfl (fun w1 hu => ?_) ?_
      · clear hu
        go_simp
        first | done | rfl
      simp only[nm]
      refine wpK_ops rfl (fun w1 hu => ?_) ?_
      · clear hu
        go_simp
        first | done | rfl
      simp only[nm]
      refine wpK_ops rfl (fun w1 hu => ?_) ?_
      · clear hu
        exact quiet_cut_h 3 (T := 31) (xs := a0) (ys := t107) rfl (by kernel_rfl) (by kernel_rfl) rfl rfl (Own.cap (ha0.up (((hu4.out.trans hu9.out).trans hu99.out).trans hu103.out))) A108.out
      simp only[nm]
      refine wpK_any rfl (stab_row _ _ _ _ _) (fun w1 hu hl => ?_) (fun v113 => ?_)
      · obtain ⟨bk_, e_, hBk_, hbb_⟩ := hl.1 (by kernel_rfl)
        dsimp only at e_
        subst e_
        have hz_ := ((Up.refl _).drew.trans hu).size
        have hr_ := Rd.up h109 ((Up.refl _).drew.trans hu)
        clear hl hu
        have hl_ : t107.length ≤ 1000000 := of_decide_eq_true (by assumption)
        exact fresh_append0 e3 (z := .agg #[.int .i64 0, .int .i64 0, .int .i64 0]) (bytes := 24) _ _ rfl rfl (by kernel_rfl) rfl (by decide) rfl hBk_ hbb_ rfl rfl hr_ hz_ (by first | omega | (simp only [List.length_cons, List.length_nil]; omega))
      simp only[nm]
      refine wpK_ops rfl (fun w1 hu => ?_) ?_
      · have cl0 := ((hb2.up ((hu9.out.trans hu99.out).trans hu103.out)).up ((Up.refl _).drew.trans hu)).cell (o := 0) rfl
        have cl1 := ((hb2.up ((hu9.out.trans hu99.out).trans hu103.out)).up ((Up.refl _).drew.trans hu)).cell (o := 1) rfl
        have cl2 := ((hb2.up ((hu9.out.trans hu99.out).trans hu103.out)).up ((Up.refl _).drew.trans hu)).cell (o := 2) rfl
        go_simp
        first | done | rfl
      simp only[nm]
      refine wpK_any rfl (stab_sl _ _ _ _) (fun w1 hu _ => fresh_sl (by go_simp <;> rfl) ((Up.refl _).drew.trans hu).size) (fun v117 => ?_)
      simp only[nm]
      refine wpK_nil ?_
      intro w119 hu hap
      simp only [List.drop_succ_cons, List.drop_zero]
      replace hu := (Up.refl _).drew.trans hu
      obtain ⟨-, -, ⟨b118, e0, hb118, lbb118⟩, -, -, ⟨P115, q116, e1, hr114⟩, -, -, ⟨b106, e2, hb106, lbb106⟩, -⟩ := hap
      replace lbb118 := Aside0.mk lbb118
      replace lbb106 := Aside0.mk lbb106
      dsimp only at e0 e1 e2
      subst e0 e1 e2
      have hu120 := Aside0.mk hu
      clear hu
      have hO0 := Aside0.mk hr114
      refine step_appendN e3 (z := .agg #[.int .i64 0, .int .i64 0, .int .i64 0]) (bytes := 24) (base := w102.heap.size) (xs := t107) (ys := [(a1_0, a1_1, a1_2)]) wn _ _ rfl rfl (by kernel_rfl) rfl (by decide) rfl rfl rfl hO0.out (Rd.of_blk (E := e3) (xs := [(a1_0, a1_1, a1_2)]) (o := 0) hb118 (by simp) (fun j u hu => by rcases j with _ | _ | _ | j <;> simp_all [Enc.flat, e3])) (hu120.out.size) (by have h0_ := (of_decide_eq_true (by assumption) : t107.length ≤ 1000000); (try simp only [List.length_cons, List.length_nil]); omega) A129.out ?_
      intro P121 q122 w123 h125 hg hat
      have hg126 := Aside0.mk hg
      have hat127 := Aside0.mk hat
      simp only[nm]
      have lb130 := Aside0.mk hO0.out.lt
      clear hO0 hg hat
      refine wpp fun k h=>?_;go_simp;apply h;clear h k
      refine wln (hK104 _ _ ?_)
      refine wsr fun _ hK133=>?_
      iterate 3 (refine wpp fun k h=>?_;go_simp;apply h;clear h k)
      refine step_cut_l e3 (T := 31) (i := x7) (xs := a0) (ys := t134) wn rfl (by kernel_rfl) (by kernel_rfl) rfl rfl rfl (Own.cap (ha0.up (((((hu4.out.trans hu9.out).trans hu99.out).trans hu103.out).trans hu120.out).grow hg126.out (fun k hk => Nat.le_trans (hm111.out) ((fun k hk => (lb130.out k hk).1) k hk))))) ((ha0.up (((((hu4.out.trans hu9.out).trans hu99.out).trans hu103.out).trans hu120.out).grow hg126.out (fun k hk => Nat.le_trans (hm111.out) ((fun k hk => (lb130.out k hk).1) k hk)))).rd) A135.out ?_
      intro P137 q138 h136 hc139
      simp only[nm]
      have hm141 := Aside0.mk (((((hu4.out.trans hu9.out).trans hu99.out).trans hu103.out).trans hu120.out).grow hg126.out (fun k hk => Nat.le_trans (hm111.out) ((fun k hk => (lb130.out k hk).1) k hk)))
      by_cases c140 : (decide (t128.length ≤ 1000000)) = true
      rotate_left
      ·
       rw [if_neg c140] at H; replace c140 := Bool.eq_false_iff.mpr c140
       exact absurd H (by simp)
      rw [if_pos c140] at H
      try simp only [c140, Bool.not_true, Bool.not_false]
      by_cases c143 : (decide (t134.length ≤ 1000000)) = true
      rotate_left
      ·
       rw [if_neg c143] at H; replace c143 := Bool.eq_false_iff.mpr c143
       exact absurd H (by simp)
      rw [if_pos c143] at H
      obtain ⟨t151,A152,H⟩:=bnd H;try dsimp only at H
      obtain rfl := Option.some.inj H
      try simp only [c143, Bool.not_true, Bool.not_false]
      have hO0 := Aside0.mk h125
      refine step_appendN e3 (z := .agg #[.int .i64 0, .int .i64 0, .int .i64 0]) (bytes := 24) (base := w102.heap.size) (xs := t128) (ys := t134) wn _ _ rfl rfl (by kernel_rfl) rfl (by decide) rfl rfl rfl hO0.out h136 ((Nat.le_trans (hu120.out.size) hg126.out.size)) (by have h0_ := (of_decide_eq_true (by assumption) : t128.length ≤ 1000000); have h1_ := (of_decide_eq_true (by assumption) : t134.length ≤ 1000000); (try simp only [List.length_cons, List.length_nil]); omega) A152.out ?_
      intro P144 q145 w146 h148 hg hat
      have hg149 := Aside0.mk hg
      have hat150 := Aside0.mk hat
      simp only[nm]
      have lb153 := Aside0.mk hO0.out.lt
      clear hO0 hg hat
      refine wpp fun k h=>?_;go_simp;apply h;clear h k
      refine wln (hK133 _ _ ?_)
      refine wp_ret ?_
      refine hQf _ _ _ ?_
      exact bpr (v := .slice P144 t151.length q145) ⟨P144, q145, rfl, (h148.lower (Nat.le_trans hBa0 (hm111.out))), (hm141.out.grow hg149.out (fun k hk => Nat.le_trans (hm111.out) ((fun k hk => (lb153.out k hk).1) k hk)))⟩
  rw [if_pos c19] at H
  obtain ⟨⟨t20, t21, t22⟩,A23,H⟩:=bnd H;try dsimp only at H
  obtain ⟨t28,A29,H⟩:=bnd H;try dsimp only at H
  try simp only [c19, Bool.not_true, Bool.not_false]
  obtain ⟨ad24, hat, he⟩ := rd_at ((ha0.up (hu4.out.trans hu9.out)).rd) A23.out
  have he25 := Aside0.mk he
  have hat27 := Aside0.mk hat
  clear he hat
  refine' wp_region_up 11 [Slot.det _, Slot.det _, Slot.det _, Slot.det _, Slot.det _, Slot.det _, Slot.det _, Slot.det (.pointer (some ad24)), Slot.det _, Slot.det (.bool t28), Slot.det _] (by kernel_rfl) (by kernel_rfl) ?main
  case main =>
   simp only [List.take_succ_cons, List.take_zero]
   refine wpK_ops rfl (fun w1 hu => ?_) ?_
   · clear hu
     go_simp
     first | done | rfl
   simp only[nm]
   refine wpK_ops rfl (fun w1 hu => ?_) ?_
   · clear hu
     go_simp
     first | done | rfl
   simp only[nm]
   refine wpK_ops rfl (fun w1 hu => ?_) ?_
   · clear hu
     go_simp
     first | done | rfl
   simp only[nm]
   refine wpK_yesU rfl (fun w1 hu => ?_) ?_
   · have cl0 := ((hb2.up hu9.out).up ((Up.refl _).drew.trans hu)).cell (o := 0) rfl
     have cl1 := ((hb2.up hu9.out).up ((Up.refl _).drew.trans hu)).cell (o := 1) rfl
     have cl2 := ((hb2.up hu9.out).up ((Up.refl _).drew.trans hu)).cell (o := 2) rfl
     go_simp
     first | done | rfl
   simp only[nm]
   refine wpK_yesU rfl (fun w1 hu => ?_) ?_
   · clear hu
     go_simp
     first | done | rfl
   simp only[nm]
   refine wpK_yesU rfl (fun w1 hu => ?_) ?_
   · clear hu
     go_simp
     first | done | rfl
   simp only[nm]
   refine wpK_yesU rfl (fun w1 hu => ?_) ?_
   · clear hu
     go_simp
     first | done | rfl
   simp only[nm]
   refine wpK_yesU rfl (fun w1 hu => ?_) ?_
   · exact quiet_index e3 (T := 31) rfl (by kernel_rfl) (by kernel_rfl) rfl rfl rfl hat27.out A23.out
   simp only[nm]
   refine wpK_yesU rfl (fun w1 hu => ?_) ?_
   · have cl0 := he25.out 0 _ rfl
     rw [addr_add0] at cl0
     replace cl0 := (((Up.refl _).drew.trans hu)).kept cl0
     have cl1 : World.cell? _ ⟨ad24.block, ad24.off + 1, none⟩ = some _ := he25.out 1 _ rfl
     replace cl1 := (((Up.refl _).drew.trans hu)).kept cl1
     have cl2 : World.cell? _ ⟨ad24.block, ad24.off + 2, none⟩ = some _ := he25.out 2 _ rfl
     replace cl2 := (((Up.refl _).drew.trans hu)).kept cl2
     go_simp
     first | done | rfl
   simp only[nm]
   refine wpK_yesU rfl (fun w1 hu => ?_) ?_
   · have hcl := (spec_l06Before.calls K a1_0 a1_1 a1_2 t20 t21 t22 t28 w1  A29.out)
     clear hu
     replace hcl := Aside0.mk hcl
     go_simp
     exact hcl.out
   simp only[nm]
   refine wpK_ops rfl (fun w1 hu => ?_) ?_
   · clear hu
     go_simp
     first | done | rfl
   simp only[nm]
   refine wpK_nil ?_
   intro w30 hu hap
   simp only [List.drop_succ_cons, List.drop_zero]
   replace hu := (Up.refl _).drew.trans hu
   clear hap
   have hu31 := Aside0.mk hu
   clear hu
   refine wln (hK18 _ _ ?_)
   by_cases c32 : (t28) = true
   ·
    rw [if_pos c32] at H
    subst c32
    have HL33 := Aside0.mk H
    clear H
    refine wp_cond_true rfl ?_
    refine wp_skip ?_
    refine hK17 _ _ ?_
    refine wp_block ?_
    refine wp_region_lit ?_
    iterate 3 (refine wpp fun k h=>?_;go_simp;apply h;clear h k)
    refine wln (hK15 _ _ ?_)
    go_roundg k12
    case measure => exact Nat.lt_succ_self _
    case rel => exact ⟨wrap64 (x7 - 1), (by first | rfl | simp), HL33, ⟨by have := hk13.out; omega⟩, ⟨(hu9.out.trans hu31.out)⟩, ⟨(Nat.le_trans ((Nat.le_trans (Nat.le_refl _) hz10.out)) hu31.out.size)⟩⟩
   rw [if_neg c32] at H; replace c32 := Bool.eq_false_iff.mpr c32
   subst c32
   obtain ⟨⟨t36, t37, t38⟩,A39,H⟩:=bnd H;try dsimp only at H
   refine wp_cond_false rfl ?_
   refine wp_exit ?_
   refine hK6 _ _ ?_
   refine wp_seq_k fun K34 hK34=>?_
   refine wp_seq_k fun K35 hK35=>?_
   obtain ⟨ad40, hat, he⟩ := rd_at ((ha0.up ((hu4.out.trans hu9.out).trans hu31.out)).rd) A39.out
   have he41 := Aside0.mk he
   have hat43 := Aside0.mk hat
   clear he hat
   refine' wp_region_up 11 [Slot.det _, Slot.det _, Slot.det _, Slot.det _, Slot.det _, Slot.det _, Slot.det (.pointer (some ad40)), Slot.det _, Slot.det _, Slot.det _, Slot.det _] (by kernel_rfl) (by kernel_rfl) ?main
   case main =>
    simp only [List.take_succ_cons, List.take_zero]
    refine wpK_ops rfl (fun w1 hu => ?_) ?_
    · clear hu
      go_simp
      first | done | rfl
    simp only[nm]
    refine wpK_ops rfl (fun w1 hu => ?_) ?_
    · clear hu
      go_simp
      first | done | rfl
    simp only[nm]
    refine wpK_ops rfl (fun w1 hu => ?_) ?_
    · clear hu
      go_simp
      first | done | rfl
    simp only[nm]
    refine wpK_yesU rfl (fun w1 hu => ?_) ?_
    · clear hu
      go_simp
      first | done | rfl
    simp only[nm]
    refine wpK_yesU rfl (fun w1 hu => ?_) ?_
    · clear hu
      go_simp
      first | done | rfl
    simp only[nm]
    refine wpK_yesU rfl (fun w1 hu => ?_) ?_
    · clear hu
      go_simp
      first | done | rfl
    simp only[nm]
    refine wpK_yesU rfl (fun w1 hu => ?_) ?_
    · exact quiet_index e3 (T := 31) rfl (by kernel_rfl) (by kernel_rfl) rfl rfl rfl hat43.out A39.out
    simp only[nm]
    refine wpK_yesU rfl (fun w1 hu => ?_) ?_
    · have cl0 := he41.out 0 _ rfl
      rw [addr_add0] at cl0
      replace cl0 := (((Up.refl _).drew.trans hu)).kept cl0
      have cl1 : World.cell? _ ⟨ad40.block, ad40.off + 1, none⟩ = some _ := he41.out 1 _ rfl
      replace cl1 := (((Up.refl _).drew.trans hu)).kept cl1
      have cl2 : World.cell? _ ⟨ad40.block, ad40.off + 2, none⟩ = some _ := he41.out 2 _ rfl
      replace cl2 := (((Up.refl _).drew.trans hu)).kept cl2
      go_simp
      first | done | rfl
    simp only[nm]
    refine wpK_yesU rfl (fun w1 hu => ?_) ?_
    · have cl0 := ((hb2.up (hu9.out.trans hu31.out)).up ((Up.refl _).drew.trans hu)).cell (o := 0) rfl
      have cl1 := ((hb2.up (hu9.out.trans hu31.out)).up ((Up.refl _).drew.trans hu)).cell (o := 1) rfl
      have cl2 := ((hb2.up (hu9.out.trans hu31.out)).up ((Up.refl _).drew.trans hu)).cell (o := 2) rfl
      go_simp
      first | done | rfl
    simp only[nm]
    refine wpK_yesU rfl (fun w1 hu => ?_) ?_
    · clear hu
      go_simp
      first | done | rfl
    simp only[nm]
    refine wpK_ops rfl (fun w1 hu => ?_) ?_
    · clear hu
      go_simp
      first | done | rfl
    simp only[nm]
    refine wpK_nil ?_
    intro w44 hu hap
    simp only [List.drop_succ_cons, List.drop_zero]
    replace hu := (Up.refl _).drew.trans hu
    clear hap
    have hu45 := Aside0.mk hu
    clear hu
    refine wln (hK35 _ _ ?_)
    have hm47 := Aside0.mk (Nat.le_trans ((Nat.le_trans ((Nat.le_trans (hu4.out.size) hz10.out)) hu31.out.size)) hu45.out.size)
    by_cases c46 : (t36 == a1_0 && (t37 == a1_1 && t38 == a1_2)) = true
    ·
     rw [if_pos c46] at H
     have c46n : (!t36 == a1_0 || (!t37 == a1_1 || !t38 == a1_2)) = false := by simp only [← Bool.not_and, c46, Bool.not_true, Bool.not_false]
     obtain rfl := Option.some.inj H
     try simp only [c46, c46n, Bool.not_true, Bool.not_false]
     refine wp_cond_true rfl ?_
     refine wsr fun _ hK49=>?_
     iterate 2 (refine wpp fun k h=>?_;go_simp;apply h;clear h k)
     refine wln (hK49 _ _ ?_)
     refine wp_ret ?_
     refine hQf _ _ _ ?_
     exact bpr (v := .slice a0_A a0.length a0_c) ⟨a0_A, a0_c, rfl, (ha0.up (((hu4.out.trans hu9.out).trans hu31.out).trans hu45.out)), (((hu4.out.trans hu9.out).trans hu31.out).trans hu45.out)⟩
    rw [if_neg c46] at H; replace c46 := Bool.eq_false_iff.mpr c46
    have c46n : (!t36 == a1_0 || (!t37 == a1_1 || !t38 == a1_2)) = true := by simp only [← Bool.not_and, c46, Bool.not_true, Bool.not_false]
    obtain ⟨t53,A54,H⟩:=bnd H;try dsimp only at H
    try simp only [c46, c46n, Bool.not_true, Bool.not_false]
    refine wp_cond_false rfl ?_
    refine wp_skip ?_
    refine hK34 _ _ ?_
    refine wp_seq_k fun K50 hK50=>?_
    have h55 := Rd.cutHi ((ha0.up (((hu4.out.trans hu9.out).trans hu31.out).trans hu45.out)).rd) A54.out
    by_cases c56 : (decide (t53.length ≤ 1000000)) = true
    rotate_left
    ·
     rw [if_neg c56] at H; replace c56 := Bool.eq_false_iff.mpr c56
     exact absurd H (by simp)
    rw [if_pos c56] at H
    obtain ⟨t72,A73,H⟩:=bnd H;try dsimp only at H
    obtain ⟨t78,A79,H⟩:=bnd H;try dsimp only at H
    try simp only [c56, Bool.not_true, Bool.not_false]
    refine' wp_region_up 7 [Slot.any (SlTo 0 [] 31 w44.heap.size) false, Slot.det _, Slot.det _, Slot.det (.slice a0_A t53.length a0_c), Slot.any (RowTo e3 31 w44.heap.size t53 (fun v => v)) false, Slot.det _, Slot.any (SlTo 1 [.int .i64 a1_0, .int .i64 a1_1, .int .i64 a1_2] 31 w44.heap.size) false] (by kernel_rfl) (by kernel_rfl) ?main
    case main =>
     simp only [List.take_succ_cons, List.take_zero]
     refine wpK_any rfl (stab_sl _ _ _ _) (fun w1 hu _ => fresh_sl (by go_simp <;> rfl) ((Up.refl _).drew.trans hu).size) (fun v51 => ?_)
     simp only[nm]
     refine wpK_ops rfl (fun w1 hu => ?_) ?_
     · clear hu
       go_simp
       first | done | rfl
     simp only[nm]
     refine wpK_ops rfl (fun w1 hu => ?_) ?_
     · clear hu
       go_simp
       first | done | rfl
     simp only[nm]
     refine wpK_ops rfl (fun w1 hu => ?_) ?_
     · clear hu
       exact quiet_cut_h 3 (T := 31) (xs := a0) (ys := t53) rfl (by kernel_rfl) (by kernel_rfl) rfl rfl (Own.cap (ha0.up (((hu4.out.trans hu9.out).trans hu31.out).trans hu45.out))) A54.out
     simp only[nm]
     refine wpK_any rfl (stab_row _ _ _ _ _) (fun w1 hu hl => ?_) (fun v57 => ?_)
     · obtain ⟨bk_, e_, hBk_, hbb_⟩ := hl.1 (by kernel_rfl)
       dsimp only at e_
       subst e_
       have hz_ := ((Up.refl _).drew.trans hu).size
       have hr_ := Rd.up h55 ((Up.refl _).drew.trans hu)
       clear hl hu
       have hl_ : t53.length ≤ 1000000 := of_decide_eq_true (by assumption)
       exact fresh_append0 e3 (z := .agg #[.int .i64 0, .int .i64 0, .int .i64 0]) (bytes := 24) _ _ rfl rfl (by kernel_rfl) rfl (by decide) rfl hBk_ hbb_ rfl rfl hr_ hz_ (by first | omega | (simp only [List.length_cons, List.length_nil]; omega))
     simp only[nm]
     refine wpK_ops rfl (fun w1 hu => ?_) ?_
     · have cl0 := ((hb2.up ((hu9.out.trans hu31.out).trans hu45.out)).up ((Up.refl _).drew.trans hu)).cell (o := 0) rfl
       have cl1 := ((hb2.up ((hu9.out.trans hu31.out).trans hu45.out)).up ((Up.refl _).drew.trans hu)).cell (o := 1) rfl
       have cl2 := ((hb2.up ((hu9.out.trans hu31.out).trans hu45.out)).up ((Up.refl _).drew.trans hu)).cell (o := 2) rfl
       go_simp
       first | done | rfl
     simp only[nm]
     refine wpK_any rfl (stab_sl _ _ _ _) (fun w1 hu _ => fresh_sl (by go_simp <;> rfl) ((Up.refl _).drew.trans hu).size) (fun v61 => ?_)
     simp only[nm]
     refine wpK_nil ?_
     intro w63 hu hap
     simp only [List.drop_succ_cons, List.drop_zero]
     replace hu := (Up.refl _).drew.trans hu
     obtain ⟨-, -, ⟨b62, e0, hb62, lbb62⟩, -, -, ⟨P59, q60, e1, hr58⟩, -, -, ⟨b52, e2, hb52, lbb52⟩, -⟩ := hap
     replace lbb62 := Aside0.mk lbb62
     replace lbb52 := Aside0.mk lbb52
     dsimp only at e0 e1 e2
     subst e0 e1 e2
     have hu64 := Aside0.mk hu
     clear hu
     have hO0 := Aside0.mk hr58
     refine step_appendN e3 (z := .agg #[.int .i64 0, .int .i64 0, .int .i64 0]) (bytes := 24) (base := w44.heap.size) (xs := t53) (ys := [(a1_0, a1_1, a1_2)]) wn _ _ rfl rfl (by kernel_rfl) rfl (by decide) rfl rfl rfl hO0.out (Rd.of_blk (E := e3) (xs := [(a1_0, a1_1, a1_2)]) (o := 0) hb62 (by simp) (fun j u hu => by rcases j with _ | _ | _ | j <;> simp_all [Enc.flat, e3])) (hu64.out.size) (by have h0_ := (of_decide_eq_true (by assumption) : t53.length ≤ 1000000); (try simp only [List.length_cons, List.length_nil]); omega) A73.out ?_
     intro P65 q66 w67 h69 hg hat
     have hg70 := Aside0.mk hg
     have hat71 := Aside0.mk hat
     simp only[nm]
     have lb74 := Aside0.mk hO0.out.lt
     clear hO0 hg hat
     refine wpp fun k h=>?_;go_simp;apply h;clear h k
     refine wln (hK50 _ _ ?_)
     refine wsr fun _ hK77=>?_
     iterate 3 (refine wpp fun k h=>?_;go_simp;apply h;clear h k)
     refine step_cut_l e3 (T := 31) (i := x7) (xs := a0) (ys := t78) wn rfl (by kernel_rfl) (by kernel_rfl) rfl rfl rfl (Own.cap (ha0.up (((((hu4.out.trans hu9.out).trans hu31.out).trans hu45.out).trans hu64.out).grow hg70.out (fun k hk => Nat.le_trans (hm47.out) ((fun k hk => (lb74.out k hk).1) k hk))))) ((ha0.up (((((hu4.out.trans hu9.out).trans hu31.out).trans hu45.out).trans hu64.out).grow hg70.out (fun k hk => Nat.le_trans (hm47.out) ((fun k hk => (lb74.out k hk).1) k hk)))).rd) A79.out ?_
     intro P81 q82 h80 hc83
     simp only[nm]
     have hm85 := Aside0.mk (((((hu4.out.trans hu9.out).trans hu31.out).trans hu45.out).trans hu64.out).grow hg70.out (fun k hk => Nat.le_trans (hm47.out) ((fun k hk => (lb74.out k hk).1) k hk)))
     by_cases c84 : (decide (t72.length ≤ 1000000)) = true
     rotate_left
     ·
      rw [if_neg c84] at H; replace c84 := Bool.eq_false_iff.mpr c84
      exact absurd H (by simp)
     rw [if_pos c84] at H
     try simp only [c84, Bool.not_true, Bool.not_false]
     by_cases c87 : (decide (t78.length ≤ 1000000)) = true
     rotate_left
     ·
      rw [if_neg c87] at H; replace c87 := Bool.eq_false_iff.mpr c87
      exact absurd H (by simp)
     rw [if_pos c87] at H
     obtain ⟨t95,A96,H⟩:=bnd H;try dsimp only at H
     obtain rfl := Option.some.inj H
     try simp only [c87, Bool.not_true, Bool.not_false]
     have hO0 := Aside0.mk h69
     refine step_appendN e3 (z := .agg #[.int .i64 0, .int .i64 0, .int .i64 0]) (bytes := 24) (base := w44.heap.size) (xs := t72) (ys := t78) wn _ _ rfl rfl (by kernel_rfl) rfl (by decide) rfl rfl rfl hO0.out h80 ((Nat.le_trans (hu64.out.size) hg70.out.size)) (by have h0_ := (of_decide_eq_true (by assumption) : t72.length ≤ 1000000); have h1_ := (of_decide_eq_true (by assumption) : t78.length ≤ 1000000); (try simp only [List.length_cons, List.length_nil]); omega) A96.out ?_
     intro P88 q89 w90 h92 hg hat
     have hg93 := Aside0.mk hg
     have hat94 := Aside0.mk hat
     simp only[nm]
     have lb97 := Aside0.mk hO0.out.lt
     clear hO0 hg hat
     refine wpp fun k h=>?_;go_simp;apply h;clear h k
     refine wln (hK77 _ _ ?_)
     refine wp_ret ?_
     refine hQf _ _ _ ?_
     exact bpr (v := .slice P88 t95.length q89) ⟨P88, q89, rfl, (h92.lower (Nat.le_trans hBa0 (hm47.out))), (hm85.out.grow hg93.out (fun k hk => Nat.le_trans (hm47.out) ((fun k hk => (lb97.out k hk).1) k hk)))⟩

set_option maxHeartbeats 40000000 in
set_option maxRecDepth 100000 in
theorem spec_TangentsFrom.calls (K : Nat) (a0 : Int) (a1 : Int) (a2_0 : Int) (a2_1 : Int) (a2_2 : Int) (a3_0 : Int) (a3_1 : Int) (r0 : List (Int × Int × Int)) (r1 : Int) (w : World)  (h : spec_TangentsFrom.f K a0 a1 a2_0 a2_1 a2_2 a3_0 a3_1 = some (r0, r1)) :
    Calls Tryz.prog 22 #[.int .i64 a0, .int .i64 a1, .agg #[.int .i64 a2_0, .int .i64 a2_1, .int .i64 a2_2], .agg #[.int .i64 a3_0, .int .i64 a3_1]] w fun e w' => ∃ (Ar0 : Option Addr) (cr0 : Nat), e = .returned (.tuple #[.slice Ar0 r0.length cr0, .int .i64 r1]) ∧ Own e3 31 w' w.heap.size (.slice Ar0 r0.length cr0) r0 ∧ Up w w' := by
 have H : (((spec_l06Given.f K a0 a1 a2_0 a2_1 a2_2 a3_0 a3_1).bind fun t10 => (if (t10 == 0) = true then ((spec_l02At.f K a0 a1 a2_0 a2_1 a2_2).bind fun t18 => (spec_TangentsFrom.l0 K a0 a1 a2_0 a2_1 a2_2 a3_0 a3_1 t18 K 0 ([] : List (Int × Int × Int)))) else some ([], t10))) : Option (List (Int × Int × Int) × Int)) = some (r0, r1) := h
 clear h
 obtain ⟨t10,A11,H⟩:=bnd H;try dsimp only at H
 go_enter Tryz.func22, Tryz.ntmps22
 refine wp_hide (fun Qf hQf => ?_)
 refine wsr fun _ hK1=>?_
 refine stp (cs := [.int .i64 a2_0, .int .i64 a2_1, .int .i64 a2_2]) (T := 27) ?_
 intro b2 w3 hu4 lbb2 ltb2 hb2
 simp only[nm]
 refine stp (cs := [.int .i64 a3_0, .int .i64 a3_1]) (T := 25) ?_
 intro b5 w6 hu7 lbb5 ltb5 hb5
 simp only[nm]
 iterate 2 (refine wpp fun k h=>?_;go_simp;apply h;clear h k)
 refine wln (hK1 _ _ ?_)
 refine wp_seq_k fun K8 hK8=>?_
 refine wsr fun _ hK9=>?_
 iterate 2 (refine wpp fun k h=>?_;go_simp;apply h;clear h k)
 have cl0 := (hb2.up hu7.out).cell (o := 0) rfl
 have cl1 := (hb2.up hu7.out).cell (o := 1) rfl
 have cl2 := (hb2.up hu7.out).cell (o := 2) rfl
 refine wpp fun k h=>?_;go_simp;apply h;clear h k
 clear cl0 cl1 cl2
 have cl0 := hb5.cell (o := 0) rfl
 have cl1 := hb5.cell (o := 1) rfl
 refine wpp fun k h=>?_;go_simp;apply h;clear h k
 clear cl0 cl1
 refine stc (spec_l06Given.calls K a0 a1 a2_0 a2_1 a2_2 a3_0 a3_1 t10 w6  A11.out) ?_
 intro w12 hu13
 simp only[nm]
 refine wpp fun k h=>?_;go_simp;apply h;clear h k
 refine wln (hK9 _ _ ?_)
 refine wsr fun _ hK14=>?_
 iterate 2 (refine wpp fun k h=>?_;go_simp;apply h;clear h k)
 refine wln (hK14 _ _ ?_)
 have hm16 := Aside0.mk ((hu4.out.trans hu7.out).trans hu13.out)
 by_cases c15 : (t10 == 0) = true
 rotate_left
 ·
  rw [if_neg c15] at H; replace c15 := Bool.eq_false_iff.mpr c15
  have c15n : (t10 != 0) = true := by rw [bne, c15]; rfl
  have c15p : ¬ t10 = 0 := fun e => by simp [e] at c15
  simp only [Option.some.injEq, Prod.mk.injEq] at H
  obtain ⟨rfl, rfl⟩ := H
  try simp only [c15, c15n, Bool.not_true, Bool.not_false]
  refine wp_cond_true rfl ?_
  refine wsr fun _ hK106=>?_
  iterate 3 (refine wpp fun k h=>?_;go_simp;apply h;clear h k)
  refine wln (hK106 _ _ ?_)
  refine wp_ret ?_
  have h108 : Own e3 31 w12 w12.heap.size (.slice none ([] : List (Int × Int × Int)).length 0) [] := Own.nil
  refine hQf _ _ _ ?_
  exact bpr (v := .tuple #[.slice none 0 0, .int .i64 t10]) ⟨none, 0, rfl, (h108.lower (hm16.out.size)), hm16.out⟩
 rw [if_pos c15] at H
 have c15n : (t10 != 0) = false := by rw [bne, c15]; rfl
 obtain ⟨t18,A21,H⟩:=bnd H;try dsimp only at H
 try simp only [c15, c15n, Bool.not_true, Bool.not_false]
 refine wp_cond_false rfl ?_
 refine wp_skip ?_
 refine hK8 _ _ ?_
 refine wsr fun _ hK17=>?_
 iterate 3 (refine wpp fun k h=>?_;go_simp;apply h;clear h k)
 have cl0 := (hb2.up (hu7.out.trans hu13.out)).cell (o := 0) rfl
 have cl1 := (hb2.up (hu7.out.trans hu13.out)).cell (o := 1) rfl
 refine wpp fun k h=>?_;go_simp;apply h;clear h k
 clear cl0 cl1
 refine wpp fun k h=>?_;go_simp;apply h;clear h k
 have cl0 := (hb2.up (hu7.out.trans hu13.out)).cell (o := 2) rfl
 refine wpp fun k h=>?_;go_simp;apply h;clear h k
 clear cl0
 refine step_call wn (by go_simp <;> rfl) (spec_l02At.calls K a0 a1 a2_0 a2_1 a2_2 t18 w12  A21.out) ?_
 rintro e w22 ⟨P19, q20, rfl, ht18, hu⟩
 have hu23 := Aside0.mk hu
 clear hu
 refine ⟨_, rfl, ?_⟩
 simp only[nm]
 refine step_new (cs := []) (T := 31) (f := fun b => .slice (some ⟨b, 0, none⟩) 0 0) rfl (by go_simp <;> rfl) ?_
 intro b24 w25 hu lb hb24
 simp only[nm]
 have lbb24 := Aside0.mk lb
 clear lb
 have hu26 := Aside0.mk hu
 clear hu
 iterate 2 (refine wpp fun k h=>?_;go_simp;apply h;clear h k)
 refine wln (hK17 _ _ ?_)
 refine wp_seq_k fun K27 hK27=>?_
 refine wsr fun _ hK28=>?_
 refine wpp fun k h=>?_;go_simp;apply h;clear h k
 refine wln (hK28 _ _ ?_)
 refine wp_block ?_
 have h30 : Own e3 31 w25 w22.heap.size (.slice (some ⟨b24, 0, none⟩) ([].length) 0) [] := Own.of_blk hb24 lbb24.out rfl (by simp) (by simp [Enc.flat, e3])
 have HL38 := Aside0.mk H
 clear H
 go_loopg [13, 12] K (fun kq v13 v12 w' => ∃ (x31 : Int) (x32 : List (Int × Int × Int)) (P33 : Option Addr) (q34 : Nat), v13 = .int .i64 x31 ∧ v12 = .slice P33 x32.length q34 ∧ Aside0 (spec_TangentsFrom.l0 K a0 a1 a2_0 a2_1 a2_2 a3_0 a3_1 t18 kq x31 x32 = some (r0, r1)) ∧ Aside0 (kq ≤ K) ∧ Aside0 (Up w22 w') ∧ Aside0 (w25.heap.size ≤ w'.heap.size) ∧ Own e3 31 w' w22.heap.size (.slice P33 x32.length q34) x32 ∧ Aside0 (∀ k, blk (.slice P33 x32.length q34) = some k → k ≠ b2) ∧ Aside0 (∀ k, blk (.slice P33 x32.length q34) = some k → k ≠ b5) ∧ Aside0 (∀ k l, blk (.slice P33 x32.length q34) = some k → blk (.slice P19 t18.length q20) = some l → k ≠ l))
 case atStart => exact ⟨0, ([] : List (Int × Int × Int)), some ⟨b24, 0, none⟩, 0, (by first | rfl | simp), (by first | rfl | simp), HL38, ⟨Nat.le_refl _⟩, ⟨hu26.out⟩, ⟨Nat.le_refl _⟩, h30, ⟨(fun k hk => Ne.symm ((fun k hk => Nat.ne_of_lt (Nat.lt_of_lt_of_le (Nat.lt_of_lt_of_le ltb2.out ((Nat.le_trans ((Nat.le_trans (hu7.out.size) hu13.out.size)) hu23.out.size))) ((fun k hk => Nat.le_trans (Nat.le_refl _) (h30.lt k hk).1) k hk))) k hk))⟩, ⟨(fun k hk => Ne.symm ((fun k hk => Nat.ne_of_lt (Nat.lt_of_lt_of_le (Nat.lt_of_lt_of_le ltb5.out ((Nat.le_trans (hu13.out.size) hu23.out.size))) ((fun k hk => Nat.le_trans (Nat.le_refl _) (h30.lt k hk).1) k hk))) k hk))⟩, ⟨(fun k l hk hl => Ne.symm ((fun k l hk hl => Nat.ne_of_lt (Nat.lt_of_lt_of_le ((fun k hk => Nat.lt_of_lt_of_le (ht18.lt k hk).2 (Nat.le_refl _)) k hk) ((fun k hk => Nat.le_trans (Nat.le_refl _) (h30.lt k hk).1) l hl))) l k hl hk))⟩⟩
 case round =>
  rename_i J45 K46 hJ45 hK46
  obtain ⟨x31, x32, P33, q34, rfl, rfl, HL47, hk44, hu36, hz37, h39, hn40, hn41, hn42⟩ := hrel
  obtain ⟨w35, rfl⟩ : ∃ wo : World, wo = wr := ⟨_, rfl⟩
  obtain ⟨k43, rfl⟩ | rfl : (∃ k, gk = k + 1) ∨ gk = 0 := by rcases gk with _ | k; exact .inr rfl; exact .inl ⟨k, rfl⟩
  case inr => exact absurd HL47.out (by simp [spec_TangentsFrom.l0])
  have H := HL47.out
  clear HL47
  rw [spec_TangentsFrom.l0] at H
  refine wp_seq_k fun K48 hK48=>?_
  refine wsr fun _ hK49=>?_
  iterate 4 (refine wpp fun k h=>?_;go_simp;apply h;clear h k)
  refine wln (hK49 _ _ ?_)
  have hm51 := Aside0.mk (hu23.out.trans hu36.out)
  by_cases c50 : (decide (x31 < (t18.length : Int))) = true
  rotate_left
  ·
   rw [if_neg c50] at H; replace c50 := Bool.eq_false_iff.mpr c50
   simp only [Option.some.injEq, Prod.mk.injEq] at H
   obtain ⟨rfl, rfl⟩ := H
   try simp only [c50, Bool.not_true, Bool.not_false]
   refine wp_cond_false rfl ?_
   refine wp_exit ?_
   refine hK27 _ _ ?_
   refine wsr fun _ hK105=>?_
   iterate 3 (refine wpp fun k h=>?_;go_simp;apply h;clear h k)
   refine wln (hK105 _ _ ?_)
   refine wp_ret ?_
   refine hQf _ _ _ ?_
   exact bpr (v := .tuple #[.slice P33 x32.length q34, .int .i64 0]) ⟨P33, q34, rfl, (h39.lower ((Nat.le_trans (hm16.out.size) hu23.out.size))), (hm16.out.trans hm51.out)⟩
  rw [if_pos c50] at H
  obtain ⟨⟨t55, t56⟩,A57,H⟩:=bnd H;try dsimp only at H
  try simp only [c50, Bool.not_true, Bool.not_false]
  refine wp_cond_true rfl ?_
  refine wp_skip ?_
  refine hK48 _ _ ?_
  refine wp_seq_k fun K52 hK52=>?_
  refine wp_block ?_
  refine wp_seq_k fun K53 hK53=>?_
  refine wp_seq_k fun K54 hK54=>?_
  obtain ⟨ad58, hat, he⟩ := rd_at ((ht18.up hu36.out).rd) A57.out
  have he59 := Aside0.mk he
  have hat61 := Aside0.mk hat
  clear he hat
  refine' wp_region_up 7 [Slot.det _, Slot.det _, Slot.det (.pointer (some ad58)), Slot.det _, Slot.det _, Slot.det _, Slot.det _] (by kernel_rfl) (by kernel_rfl) ?main
  case main =>
   simp only [List.take_succ_cons, List.take_zero]
   refine wpK_ops rfl (fun w1 hu => ?_) ?_
   · clear hu
     go_simp
     first | done | rfl
   simp only[nm]
   refine wpK_ops rfl (fun w1 hu => ?_) ?_
   · clear hu
     go_simp
     first | done | rfl
   simp only[nm]
   refine wpK_ops rfl (fun w1 hu => ?_) ?_
   · exact quiet_index e2 (T := 25) rfl (by kernel_rfl) (by kernel_rfl) rfl rfl rfl hat61.out A57.out
   simp only[nm]
   refine wpK_ops rfl (fun w1 hu => ?_) ?_
   · have cl0 := he59.out 0 _ rfl
     rw [addr_add0] at cl0
     replace cl0 := (((Up.refl _).drew.trans hu)).kept cl0
     have cl1 : World.cell? _ ⟨ad58.block, ad58.off + 1, none⟩ = some _ := he59.out 1 _ rfl
     replace cl1 := (((Up.refl _).drew.trans hu)).kept cl1
     go_simp
     first | done | rfl
   simp only[nm]
   refine wpK_ops rfl (fun w1 hu => ?_) ?_
   · clear hu
     go_simp
     first | done | rfl
   simp only[nm]
   refine wpK_ops rfl (fun w1 hu => ?_) ?_
   · have cl0 := ((hb2.up ((hu7.out.trans hu13.out).trans hm51.out)).up ((Up.refl _).drew.trans hu)).cell (o := 0) rfl
     have cl1 := ((hb2.up ((hu7.out.trans hu13.out).trans hm51.out)).up ((Up.refl _).drew.trans hu)).cell (o := 1) rfl
     go_simp
     first | done | rfl
   simp only[nm]
   refine wpK_ops rfl (fun w1 hu => ?_) ?_
   · clear hu
     go_simp
     first | done | rfl
   simp only[nm]
   refine wpK_nil ?_
   intro w62 hu hap
   simp only [List.drop_succ_cons, List.drop_zero]
   replace hu := (Up.refl _).drew.trans hu
   clear hap
   have hu63 := Aside0.mk hu
   clear hu
   refine wln (hK54 _ _ ?_)
   have h65 := (hb2.up (((hu7.out.trans hu13.out).trans hm51.out).trans hu63.out))
   by_cases c64 : (t55 == a2_0 && t56 == a2_1) = true
   ·
    rw [if_pos c64] at H
    have c64n : (!t55 == a2_0 || !t56 == a2_1) = false := by simp only [← Bool.not_and, c64, Bool.not_true, Bool.not_false]
    have HL66 := Aside0.mk H
    clear H
    try simp only [c64, c64n, Bool.not_true, Bool.not_false]
    refine wp_cond_true rfl ?_
    refine wp_exit ?_
    refine hK52 _ _ ?_
    refine wp_region_lit ?_
    iterate 3 (refine wpp fun k h=>?_;go_simp;apply h;clear h k)
    refine wln (hK46 _ _ ?_)
    go_roundg k43
    case measure => exact Nat.lt_succ_self _
    case rel => exact ⟨wrap64 (x31 + 1), x32, P33, q34, (by first | rfl | simp), (by first | rfl | simp), HL66, ⟨by have := hk44.out; omega⟩, ⟨(hu36.out.trans hu63.out)⟩, ⟨(Nat.le_trans ((Nat.le_trans (Nat.le_refl _) hz37.out)) hu63.out.size)⟩, (h39.up hu63.out), ⟨hn40.out⟩, ⟨hn41.out⟩, ⟨hn42.out⟩⟩
   rw [if_neg c64] at H; replace c64 := Bool.eq_false_iff.mpr c64
   have c64n : (!t55 == a2_0 || !t56 == a2_1) = true := by simp only [← Bool.not_and, c64, Bool.not_true, Bool.not_false]
   obtain ⟨⟨t68, t69⟩,A70,H⟩:=bnd H;try dsimp only at H
   obtain ⟨⟨t75, t76, t77⟩,A78,H⟩:=bnd H;try dsimp only at H
   obtain ⟨t87,A88,H⟩:=bnd H;try dsimp only at H
   try simp only [c64, c64n, Bool.not_true, Bool.not_false]
   refine wp_cond_false rfl ?_
   refine wp_skip ?_
   refine hK53 _ _ ?_
   refine wp_seq_k fun K67 hK67=>?_
   obtain ⟨ad71, hat, he⟩ := rd_at ((ht18.up (hu36.out.trans hu63.out)).rd) A70.out
   have he72 := Aside0.mk he
   have hat74 := Aside0.mk hat
   clear he hat
   refine' wp_region_up 9 [Slot.det _, Slot.det _, Slot.det _, Slot.det _, Slot.det _, Slot.det (.pointer (some ad71)), Slot.det _, Slot.det (.agg #[.int .i64 t75, .int .i64 t76, .int .i64 t77]), Slot.any (PtrTo [.int .i64 0, .int .i64 0, .int .i64 0] 31) true] (by kernel_rfl) (by kernel_rfl) ?main
   case main =>
    simp only [List.take_succ_cons, List.take_zero]
    refine wpK_ops rfl (fun w1 hu => ?_) ?_
    · clear hu
      go_simp
      first | done | rfl
    simp only[nm]
    refine wpK_ops rfl (fun w1 hu => ?_) ?_
    · clear hu
      go_simp
      first | done | rfl
    simp only[nm]
    refine wpK_ops rfl (fun w1 hu => ?_) ?_
    · have cl0 := (h65.up ((Up.refl _).drew.trans hu)).cell (o := 0) rfl
      have cl1 := (h65.up ((Up.refl _).drew.trans hu)).cell (o := 1) rfl
      have cl2 := (h65.up ((Up.refl _).drew.trans hu)).cell (o := 2) rfl
      go_simp
      first | done | rfl
    simp only[nm]
    refine wpK_ops rfl (fun w1 hu => ?_) ?_
    · clear hu
      go_simp
      first | done | rfl
    simp only[nm]
    refine wpK_ops rfl (fun w1 hu => ?_) ?_
    · clear hu
      go_simp
      first | done | rfl
    simp only[nm]
    refine wpK_ops rfl (fun w1 hu => ?_) ?_
    · exact quiet_index e2 (T := 25) rfl (by kernel_rfl) (by kernel_rfl) rfl rfl rfl hat74.out A70.out
    simp only[nm]
    refine wpK_ops rfl (fun w1 hu => ?_) ?_
    · have cl0 := he72.out 0 _ rfl
      rw [addr_add0] at cl0
      replace cl0 := (((Up.refl _).drew.trans hu)).kept cl0
      have cl1 : World.cell? _ ⟨ad71.block, ad71.off + 1, none⟩ = some _ := he72.out 1 _ rfl
      replace cl1 := (((Up.refl _).drew.trans hu)).kept cl1
      go_simp
      first | done | rfl
    simp only[nm]
    refine wpK_ops rfl (fun w1 hu => ?_) ?_
    · have hcl := (spec_l06Tangent.calls K a0 a1 a2_0 a2_1 a2_2 t68 t69 t75 t76 t77 w1  A78.out)
      clear hu
      replace hcl := Aside0.mk hcl
      go_simp
      exact hcl.out
    simp only[nm]
    refine wpK_any rfl (stab_ptr _ _) (fun w1 _ _ => fresh_ptr (by go_simp <;> rfl)) (fun v79 => ?_)
    simp only[nm]
    refine wpK_nil ?_
    intro w81 hu hap
    simp only [List.drop_succ_cons, List.drop_zero]
    replace hu := (Up.refl _).drew.trans hu
    obtain ⟨hf0, hn0, ⟨b80, e0, hb80⟩, -⟩ := hap
    have lbb80 := Aside0.mk (hf0 rfl b80 (by rw [e0]; rfl)).1
    dsimp only at e0
    subst e0
    clear hf0 hn0
    have hu82 := Aside0.mk hu
    clear hu
    refine stw [.int .i64 t75, .int .i64 t76, .int .i64 t77] hb80 rfl rfl rfl rfl rfl (by kernel_rfl) rfl rfl ?_
    intro w83 hs84 hb85
    refine wln (hK67 _ _ ?_)
    refine wsr fun _ hK86=>?_
    refine wpp fun k h=>?_;go_simp;apply h;clear h k
    have cl0 := (hb5.up ((((hu13.out.trans hm51.out).trans hu63.out).trans hu82.out).sto (Nat.le_trans ((Nat.le_trans ((Nat.le_trans (hu13.out.size) hm51.out.size)) hu63.out.size)) lbb80.out) hs84.out)).cell (o := 0) rfl
    have cl1 := (hb5.up ((((hu13.out.trans hm51.out).trans hu63.out).trans hu82.out).sto (Nat.le_trans ((Nat.le_trans ((Nat.le_trans (hu13.out.size) hm51.out.size)) hu63.out.size)) lbb80.out) hs84.out)).cell (o := 1) rfl
    refine wpp fun k h=>?_;go_simp;apply h;clear h k
    clear cl0 cl1
    have cl0 := hb85.cell (o := 0) rfl
    have cl1 := hb85.cell (o := 1) rfl
    have cl2 := hb85.cell (o := 2) rfl
    refine wpp fun k h=>?_;go_simp;apply h;clear h k
    clear cl0 cl1 cl2
    refine stc (spec_l01On.calls K a0 a3_0 a3_1 t75 t76 t77 t87 w83  A88.out) ?_
    intro w89 hu90
    simp only[nm]
    refine wln (hK86 _ _ ?_)
    have hm92 := Aside0.mk ((hu82.out.sto (Nat.le_trans (Nat.le_refl _) lbb80.out) hs84.out).trans hu90.out)
    have hm94 := Aside0.mk (Nat.le_trans ((Nat.le_trans ((Nat.le_trans (hu26.out.size) hz37.out)) hu63.out.size)) hm92.out.size)
    have hm95 := Aside0.mk (Nat.le_trans ((Nat.le_trans ((Nat.le_trans (Nat.le_refl _) hz37.out)) hu63.out.size)) hm92.out.size)
    by_cases c91 : (t87) = true
    rotate_left
    ·
     rw [if_neg c91] at H; replace c91 := Bool.eq_false_iff.mpr c91
     subst c91
     have HL104 := Aside0.mk H
     clear H
     refine wp_cond_false rfl ?_
     refine wp_skip ?_
     refine hK52 _ _ ?_
     refine wp_region_lit ?_
     iterate 3 (refine wpp fun k h=>?_;go_simp;apply h;clear h k)
     refine wln (hK46 _ _ ?_)
     go_roundg k43
     case measure => exact Nat.lt_succ_self _
     case rel => exact ⟨wrap64 (x31 + 1), x32, P33, q34, (by first | rfl | simp), (by first | rfl | simp), HL104, ⟨by have := hk44.out; omega⟩, ⟨((hu36.out.trans hu63.out).trans hm92.out)⟩, ⟨hm95.out⟩, (h39.up (hu63.out.trans hm92.out)), ⟨hn40.out⟩, ⟨hn41.out⟩, ⟨hn42.out⟩⟩
    rw [if_pos c91] at H
    subst c91
    obtain ⟨t97,A100,H⟩:=bnd H;try dsimp only at H
    have HL103 := Aside0.mk H
    clear H
    refine wp_cond_true rfl ?_
    refine wp_region_lit ?_
    refine wpp fun k h=>?_;go_simp;apply h;clear h k
    have cl0 := (hb85.up hu90.out).cell (o := 0) rfl
    have cl1 := (hb85.up hu90.out).cell (o := 1) rfl
    have cl2 := (hb85.up hu90.out).cell (o := 2) rfl
    refine wpp fun k h=>?_;go_simp;apply h;clear h k
    clear cl0 cl1 cl2
    refine step_call wn (by go_simp <;> rfl) (spec_l06Put.calls K P33 q34 w22.heap.size x32 t75 t76 t77 t97 w89 (h39.up (hu63.out.trans hm92.out)) (hm94.out) A100.out) ?_
    rintro e w101 ⟨P98, q99, rfl, ht97, hu⟩
    have hu102 := Aside0.mk hu
    clear hu
    refine ⟨_, rfl, ?_⟩
    simp only[nm]
    refine wpp fun k h=>?_;go_simp;apply h;clear h k
    refine wln (hK52 _ _ ?_)
    refine wp_region_lit ?_
    iterate 3 (refine wpp fun k h=>?_;go_simp;apply h;clear h k)
    refine wln (hK46 _ _ ?_)
    go_roundg k43
    case measure => exact Nat.lt_succ_self _
    case rel => exact ⟨wrap64 (x31 + 1), t97, P98, q99, (by first | rfl | simp), (by first | rfl | simp), HL103, ⟨by have := hk44.out; omega⟩, ⟨(((hu36.out.trans hu63.out).trans hm92.out).trans hu102.out)⟩, ⟨(Nat.le_trans (hm95.out) hu102.out.size)⟩, ht97, ⟨(fun k hk => Ne.symm ((fun k hk => Nat.ne_of_lt (Nat.lt_of_lt_of_le (Nat.lt_of_lt_of_le ltb2.out ((Nat.le_trans ((Nat.le_trans (hu7.out.size) hu13.out.size)) hu23.out.size))) ((fun k hk => Nat.le_trans (Nat.le_refl _) (ht97.lt k hk).1) k hk))) k hk))⟩, ⟨(fun k hk => Ne.symm ((fun k hk => Nat.ne_of_lt (Nat.lt_of_lt_of_le (Nat.lt_of_lt_of_le ltb5.out ((Nat.le_trans (hu13.out.size) hu23.out.size))) ((fun k hk => Nat.le_trans (Nat.le_refl _) (ht97.lt k hk).1) k hk))) k hk))⟩, ⟨(fun k l hk hl => Ne.symm ((fun k l hk hl => Nat.ne_of_lt (Nat.lt_of_lt_of_le ((fun k hk => Nat.lt_of_lt_of_le (ht18.lt k hk).2 (Nat.le_refl _)) k hk) ((fun k hk => Nat.le_trans (Nat.le_refl _) (ht97.lt k hk).1) l hl))) l k hl hk))⟩⟩

set_option maxHeartbeats 40000000 in
set_option maxRecDepth 100000 in
theorem laws_lines9.calls (K : Nat) (a0_A : Option Addr) (a0_c : Nat) (a0 : List (Int × Int × Int)) (a1_A : Option Addr) (a1_c : Nat) (a1 : List (Int × Int × Int)) (r0 : Bool) (w : World) (ha0 : Rd e3 w a0_A a0) (ha1 : Rd e3 w a1_A a1) (h : laws_lines9.f K a0 a1 = some (r0)) :
    Calls Tryz.prog 23 #[.slice a0_A a0.length a0_c, .slice a1_A a1.length a1_c] w fun e w' => e = .returned (.bool r0) ∧ Up w w' := by
 have H : ((if ((a0.length : Int) == (a1.length : Int)) = true then (laws_lines9.l0 K a0 a1 K 0) else some false) : Option (Bool)) = some (r0) := h
 clear h
 go_enter Tryz.func23, Tryz.ntmps23
 refine wp_hide (fun Qf hQf => ?_)
 refine wsr fun _ hK1=>?_
 refine wpp fun k h=>?_;go_simp;apply h;clear h k
 refine wln (hK1 _ _ ?_)
 refine wp_seq_k fun K2 hK2=>?_
 refine wsr fun _ hK3=>?_
 iterate 5 (refine wpp fun k h=>?_;go_simp;apply h;clear h k)
 refine wln (hK3 _ _ ?_)
 by_cases c4 : ((a0.length : Int) == (a1.length : Int)) = true
 rotate_left
 ·
  rw [if_neg c4] at H; replace c4 := Bool.eq_false_iff.mpr c4
  have c4n : ((a0.length : Int) != (a1.length : Int)) = true := by rw [bne, c4]; rfl
  have c4p : ¬ (a0.length : Int) = (a1.length : Int) := fun e => by simp [e] at c4
  obtain rfl := Option.some.inj H
  try simp only [c4, c4n, Bool.not_true, Bool.not_false]
  refine wp_cond_true rfl ?_
  refine wsr fun _ hK44=>?_
  refine wpp fun k h=>?_;go_simp;apply h;clear h k
  refine wln (hK44 _ _ ?_)
  refine wp_ret ?_
  refine hQf _ _ _ ?_
  exact bpr (v := .bool false) ⟨rfl, (Up.refl _)⟩
 rw [if_pos c4] at H
 have c4n : ((a0.length : Int) != (a1.length : Int)) = false := by rw [bne, c4]; rfl
 try simp only [c4, c4n, Bool.not_true, Bool.not_false]
 refine wp_cond_false rfl ?_
 refine wp_skip ?_
 refine hK2 _ _ ?_
 refine wp_seq_k fun K5 hK5=>?_
 refine wsr fun _ hK6=>?_
 refine wpp fun k h=>?_;go_simp;apply h;clear h k
 refine wln (hK6 _ _ ?_)
 refine wp_block ?_
 have HL11 := Aside0.mk H
 clear H
 go_loopg [5] K (fun kq v5 w' => ∃ (x7 : Int), v5 = .int .i64 x7 ∧ Aside0 (laws_lines9.l0 K a0 a1 kq x7 = some (r0)) ∧ Aside0 (kq ≤ K) ∧ Aside0 (Up w w') ∧ Aside0 (w.heap.size ≤ w'.heap.size))
 case atStart => exact ⟨0, (by first | rfl | simp), HL11, ⟨Nat.le_refl _⟩, ⟨(Up.refl _)⟩, ⟨Nat.le_refl _⟩⟩
 case round =>
  rename_i J14 K15 hJ14 hK15
  obtain ⟨x7, rfl, HL16, hk13, hu9, hz10⟩ := hrel
  obtain ⟨w8, rfl⟩ : ∃ wo : World, wo = wr := ⟨_, rfl⟩
  obtain ⟨k12, rfl⟩ | rfl : (∃ k, gk = k + 1) ∨ gk = 0 := by rcases gk with _ | k; exact .inr rfl; exact .inl ⟨k, rfl⟩
  case inr => exact absurd HL16.out (by simp [laws_lines9.l0])
  have H := HL16.out
  clear HL16
  rw [laws_lines9.l0] at H
  refine wp_seq_k fun K17 hK17=>?_
  refine wsr fun _ hK18=>?_
  iterate 4 (refine wpp fun k h=>?_;go_simp;apply h;clear h k)
  refine wln (hK18 _ _ ?_)
  by_cases c19 : (decide (x7 < (a0.length : Int))) = true
  rotate_left
  ·
   rw [if_neg c19] at H; replace c19 := Bool.eq_false_iff.mpr c19
   obtain rfl := Option.some.inj H
   try simp only [c19, Bool.not_true, Bool.not_false]
   refine wp_cond_false rfl ?_
   refine wp_exit ?_
   refine hK5 _ _ ?_
   refine wsr fun _ hK43=>?_
   refine wpp fun k h=>?_;go_simp;apply h;clear h k
   refine wln (hK43 _ _ ?_)
   refine wp_ret ?_
   refine hQf _ _ _ ?_
   exact bpr (v := .bool true) ⟨rfl, hu9.out⟩
  rw [if_pos c19] at H
  obtain ⟨⟨t22, t23, t24⟩,A25,H⟩:=bnd H;try dsimp only at H
  obtain ⟨⟨t30, t31, t32⟩,A33,H⟩:=bnd H;try dsimp only at H
  try simp only [c19, Bool.not_true, Bool.not_false]
  refine wp_cond_true rfl ?_
  refine wp_skip ?_
  refine hK17 _ _ ?_
  refine wp_seq_k fun K20 hK20=>?_
  refine wp_block ?_
  refine wp_seq_k fun K21 hK21=>?_
  obtain ⟨ad26, hat, he⟩ := rd_at (ha0.up hu9.out) A25.out
  have he27 := Aside0.mk he
  have hat29 := Aside0.mk hat
  clear he hat
  obtain ⟨ad34, hat, he⟩ := rd_at (ha1.up hu9.out) A33.out
  have he35 := Aside0.mk he
  have hat37 := Aside0.mk hat
  clear he hat
  refine' wp_region_up 9 [Slot.det _, Slot.det _, Slot.det (.pointer (some ad26)), Slot.det _, Slot.det _, Slot.det _, Slot.det (.pointer (some ad34)), Slot.det _, Slot.det _] (by kernel_rfl) (by kernel_rfl) ?main
  case main =>
   simp only [List.take_succ_cons, List.take_zero]
   refine wpK_ops rfl (fun w1 hu => ?_) ?_
   · clear hu
     go_simp
     first | done | rfl
   simp only[nm]
   refine wpK_ops rfl (fun w1 hu => ?_) ?_
   · clear hu
     go_simp
     first | done | rfl
   simp only[nm]
   refine wpK_ops rfl (fun w1 hu => ?_) ?_
   · exact quiet_index e3 (T := 31) rfl (by kernel_rfl) (by kernel_rfl) rfl rfl rfl hat29.out A25.out
   simp only[nm]
   refine wpK_ops rfl (fun w1 hu => ?_) ?_
   · have cl0 := he27.out 0 _ rfl
     rw [addr_add0] at cl0
     replace cl0 := (((Up.refl _).drew.trans hu)).kept cl0
     have cl1 : World.cell? _ ⟨ad26.block, ad26.off + 1, none⟩ = some _ := he27.out 1 _ rfl
     replace cl1 := (((Up.refl _).drew.trans hu)).kept cl1
     have cl2 : World.cell? _ ⟨ad26.block, ad26.off + 2, none⟩ = some _ := he27.out 2 _ rfl
     replace cl2 := (((Up.refl _).drew.trans hu)).kept cl2
     go_simp
     first | done | rfl
   simp only[nm]
   refine wpK_ops rfl (fun w1 hu => ?_) ?_
   · clear hu
     go_simp
     first | done | rfl
   simp only[nm]
   refine wpK_ops rfl (fun w1 hu => ?_) ?_
   · clear hu
     go_simp
     first | done | rfl
   simp only[nm]
   refine wpK_ops rfl (fun w1 hu => ?_) ?_
   · exact quiet_index e3 (T := 31) rfl (by kernel_rfl) (by kernel_rfl) rfl rfl rfl hat37.out A33.out
   simp only[nm]
   refine wpK_ops rfl (fun w1 hu => ?_) ?_
   · have cl0 := he35.out 0 _ rfl
     rw [addr_add0] at cl0
     replace cl0 := (((Up.refl _).drew.trans hu)).kept cl0
     have cl1 : World.cell? _ ⟨ad34.block, ad34.off + 1, none⟩ = some _ := he35.out 1 _ rfl
     replace cl1 := (((Up.refl _).drew.trans hu)).kept cl1
     have cl2 : World.cell? _ ⟨ad34.block, ad34.off + 2, none⟩ = some _ := he35.out 2 _ rfl
     replace cl2 := (((Up.refl _).drew.trans hu)).kept cl2
     go_simp
     first | done | rfl
   simp only[nm]
   refine wpK_ops rfl (fun w1 hu => ?_) ?_
   · clear hu
     go_simp
     first | done | rfl
   simp only[nm]
   refine wpK_nil ?_
   intro w38 hu hap
   simp only [List.drop_succ_cons, List.drop_zero]
   replace hu := (Up.refl _).drew.trans hu
   clear hap
   have hu39 := Aside0.mk hu
   clear hu
   refine wln (hK21 _ _ ?_)
   by_cases c40 : (t22 == t30 && (t23 == t31 && t24 == t32)) = true
   rotate_left
   ·
    rw [if_neg c40] at H; replace c40 := Bool.eq_false_iff.mpr c40
    have c40n : (!t22 == t30 || (!t23 == t31 || !t24 == t32)) = true := by simp only [← Bool.not_and, c40, Bool.not_true, Bool.not_false]
    obtain rfl := Option.some.inj H
    try simp only [c40, c40n, Bool.not_true, Bool.not_false]
    refine wp_cond_true rfl ?_
    refine wsr fun _ hK42=>?_
    refine wpp fun k h=>?_;go_simp;apply h;clear h k
    refine wln (hK42 _ _ ?_)
    refine wp_ret ?_
    refine hQf _ _ _ ?_
    exact bpr (v := .bool false) ⟨rfl, (hu9.out.trans hu39.out)⟩
   rw [if_pos c40] at H
   have c40n : (!t22 == t30 || (!t23 == t31 || !t24 == t32)) = false := by simp only [← Bool.not_and, c40, Bool.not_true, Bool.not_false]
   have HL41 := Aside0.mk H
   clear H
   try simp only [c40, c40n, Bool.not_true, Bool.not_false]
   refine wp_cond_false rfl ?_
   refine wp_skip ?_
   refine hK20 _ _ ?_
   refine wp_region_lit ?_
   iterate 3 (refine wpp fun k h=>?_;go_simp;apply h;clear h k)
   refine wln (hK15 _ _ ?_)
   go_roundg k12
   case measure => exact Nat.lt_succ_self _
   case rel => exact ⟨wrap64 (x7 + 1), (by first | rfl | simp), HL41, ⟨by have := hk13.out; omega⟩, ⟨(hu9.out.trans hu39.out)⟩, ⟨(Nat.le_trans ((Nat.le_trans (Nat.le_refl _) hz10.out)) hu39.out.size)⟩⟩

set_option maxHeartbeats 40000000 in
set_option maxRecDepth 100000 in
theorem laws_hasPoint9.calls (K : Nat) (a0_A : Option Addr) (a0_c : Nat) (a0 : List (Int × Int)) (a1_0 : Int) (a1_1 : Int) (r0 : Bool) (w : World) (ha0 : Rd e2 w a0_A a0) (h : laws_hasPoint9.f K a0 a1_0 a1_1 = some (r0)) :
    Calls Tryz.prog 24 #[.slice a0_A a0.length a0_c, .agg #[.int .i64 a1_0, .int .i64 a1_1]] w fun e w' => e = .returned (.bool r0) ∧ Up w w' := by
 have H : ((laws_hasPoint9.l0 K a0 a1_0 a1_1 K 0) : Option (Bool)) = some (r0) := h
 clear h
 go_enter Tryz.func24, Tryz.ntmps24
 refine wp_hide (fun Qf hQf => ?_)
 refine wsr fun _ hK1=>?_
 refine stp (cs := [.int .i64 a1_0, .int .i64 a1_1]) (T := 25) ?_
 intro b2 w3 hu4 lbb2 ltb2 hb2
 simp only[nm]
 refine wpp fun k h=>?_;go_simp;apply h;clear h k
 refine wln (hK1 _ _ ?_)
 refine wp_seq_k fun K5 hK5=>?_
 refine wsr fun _ hK6=>?_
 refine wpp fun k h=>?_;go_simp;apply h;clear h k
 refine wln (hK6 _ _ ?_)
 refine wp_block ?_
 have HL11 := Aside0.mk H
 clear H
 go_loopg [5] K (fun kq v5 w' => ∃ (x7 : Int), v5 = .int .i64 x7 ∧ Aside0 (laws_hasPoint9.l0 K a0 a1_0 a1_1 kq x7 = some (r0)) ∧ Aside0 (kq ≤ K) ∧ Aside0 (Up w3 w') ∧ Aside0 (w3.heap.size ≤ w'.heap.size))
 case atStart => exact ⟨0, (by first | rfl | simp), HL11, ⟨Nat.le_refl _⟩, ⟨(Up.refl _)⟩, ⟨Nat.le_refl _⟩⟩
 case round =>
  rename_i J14 K15 hJ14 hK15
  obtain ⟨x7, rfl, HL16, hk13, hu9, hz10⟩ := hrel
  obtain ⟨w8, rfl⟩ : ∃ wo : World, wo = wr := ⟨_, rfl⟩
  obtain ⟨k12, rfl⟩ | rfl : (∃ k, gk = k + 1) ∨ gk = 0 := by rcases gk with _ | k; exact .inr rfl; exact .inl ⟨k, rfl⟩
  case inr => exact absurd HL16.out (by simp [laws_hasPoint9.l0])
  have H := HL16.out
  clear HL16
  rw [laws_hasPoint9.l0] at H
  refine wp_seq_k fun K17 hK17=>?_
  refine wsr fun _ hK18=>?_
  iterate 4 (refine wpp fun k h=>?_;go_simp;apply h;clear h k)
  refine wln (hK18 _ _ ?_)
  by_cases c19 : (decide (x7 < (a0.length : Int))) = true
  rotate_left
  ·
   rw [if_neg c19] at H; replace c19 := Bool.eq_false_iff.mpr c19
   obtain rfl := Option.some.inj H
   try simp only [c19, Bool.not_true, Bool.not_false]
   refine wp_cond_false rfl ?_
   refine wp_exit ?_
   refine hK5 _ _ ?_
   refine wsr fun _ hK34=>?_
   refine wpp fun k h=>?_;go_simp;apply h;clear h k
   refine wln (hK34 _ _ ?_)
   refine wp_ret ?_
   refine hQf _ _ _ ?_
   exact bpr (v := .bool false) ⟨rfl, (hu4.out.trans hu9.out)⟩
  rw [if_pos c19] at H
  obtain ⟨⟨t22, t23⟩,A24,H⟩:=bnd H;try dsimp only at H
  try simp only [c19, Bool.not_true, Bool.not_false]
  refine wp_cond_true rfl ?_
  refine wp_skip ?_
  refine hK17 _ _ ?_
  refine wp_seq_k fun K20 hK20=>?_
  refine wp_block ?_
  refine wp_seq_k fun K21 hK21=>?_
  obtain ⟨ad25, hat, he⟩ := rd_at (ha0.up (hu4.out.trans hu9.out)) A24.out
  have he26 := Aside0.mk he
  have hat28 := Aside0.mk hat
  clear he hat
  refine' wp_region_up 6 [Slot.det _, Slot.det _, Slot.det (.pointer (some ad25)), Slot.det _, Slot.det _, Slot.det _] (by kernel_rfl) (by kernel_rfl) ?main
  case main =>
   simp only [List.take_succ_cons, List.take_zero]
   refine wpK_ops rfl (fun w1 hu => ?_) ?_
   · clear hu
     go_simp
     first | done | rfl
   simp only[nm]
   refine wpK_ops rfl (fun w1 hu => ?_) ?_
   · clear hu
     go_simp
     first | done | rfl
   simp only[nm]
   refine wpK_ops rfl (fun w1 hu => ?_) ?_
   · exact quiet_index e2 (T := 25) rfl (by kernel_rfl) (by kernel_rfl) rfl rfl rfl hat28.out A24.out
   simp only[nm]
   refine wpK_ops rfl (fun w1 hu => ?_) ?_
   · have cl0 := he26.out 0 _ rfl
     rw [addr_add0] at cl0
     replace cl0 := (((Up.refl _).drew.trans hu)).kept cl0
     have cl1 : World.cell? _ ⟨ad25.block, ad25.off + 1, none⟩ = some _ := he26.out 1 _ rfl
     replace cl1 := (((Up.refl _).drew.trans hu)).kept cl1
     go_simp
     first | done | rfl
   simp only[nm]
   refine wpK_ops rfl (fun w1 hu => ?_) ?_
   · have cl0 := ((hb2.up hu9.out).up ((Up.refl _).drew.trans hu)).cell (o := 0) rfl
     have cl1 := ((hb2.up hu9.out).up ((Up.refl _).drew.trans hu)).cell (o := 1) rfl
     go_simp
     first | done | rfl
   simp only[nm]
   refine wpK_ops rfl (fun w1 hu => ?_) ?_
   · clear hu
     go_simp
     first | done | rfl
   simp only[nm]
   refine wpK_nil ?_
   intro w29 hu hap
   simp only [List.drop_succ_cons, List.drop_zero]
   replace hu := (Up.refl _).drew.trans hu
   clear hap
   have hu30 := Aside0.mk hu
   clear hu
   refine wln (hK21 _ _ ?_)
   by_cases c31 : (t22 == a1_0 && t23 == a1_1) = true
   ·
    rw [if_pos c31] at H
    have c31n : (!t22 == a1_0 || !t23 == a1_1) = false := by simp only [← Bool.not_and, c31, Bool.not_true, Bool.not_false]
    obtain rfl := Option.some.inj H
    try simp only [c31, c31n, Bool.not_true, Bool.not_false]
    refine wp_cond_true rfl ?_
    refine wsr fun _ hK32=>?_
    refine wpp fun k h=>?_;go_simp;apply h;clear h k
    refine wln (hK32 _ _ ?_)
    refine wp_ret ?_
    refine hQf _ _ _ ?_
    exact bpr (v := .bool true) ⟨rfl, ((hu4.out.trans hu9.out).trans hu30.out)⟩
   rw [if_neg c31] at H; replace c31 := Bool.eq_false_iff.mpr c31
   have c31n : (!t22 == a1_0 || !t23 == a1_1) = true := by simp only [← Bool.not_and, c31, Bool.not_true, Bool.not_false]
   have HL33 := Aside0.mk H
   clear H
   try simp only [c31, c31n, Bool.not_true, Bool.not_false]
   refine wp_cond_false rfl ?_
   refine wp_skip ?_
   refine hK20 _ _ ?_
   refine wp_region_lit ?_
   iterate 3 (refine wpp fun k h=>?_;go_simp;apply h;clear h k)
   refine wln (hK15 _ _ ?_)
   go_roundg k12
   case measure => exact Nat.lt_succ_self _
   case rel => exact ⟨wrap64 (x7 + 1), (by first | rfl | simp), HL33, ⟨by have := hk13.out; omega⟩, ⟨(hu9.out.trans hu30.out)⟩, ⟨(Nat.le_trans ((Nat.le_trans (Nat.le_refl _) hz10.out)) hu30.out.size)⟩⟩

set_option maxHeartbeats 40000000 in
set_option maxRecDepth 100000 in
theorem spec_IsCircle.calls (K : Nat) (a0 : Int) (a1_0 : Int) (a1_1 : Int) (a1_2 : Int) (r0 : Bool) (r1 : Int) (w : World)  (h : spec_IsCircle.f K a0 a1_0 a1_1 a1_2 = some (r0, r1)) :
    Calls Tryz.prog 20 #[.int .i64 a0, .agg #[.int .i64 a1_0, .int .i64 a1_1, .int .i64 a1_2]] w fun e w' => e = .returned (.tuple #[.bool r0, .int .i64 r1]) ∧ Up w w' := by
 have H : (((spec_l01Field.f K a0).bind fun t7 => (if t7 = true then ((spec_l06Is.f K a0 a1_0 a1_1 a1_2).bind fun t13 => some (t13, 0)) else some (false, 1))) : Option (Bool × Int)) = some (r0, r1) := h
 clear h
 obtain ⟨t7,A8,H⟩:=bnd H;try dsimp only at H
 go_enter Tryz.func20, Tryz.ntmps20
 refine wp_hide (fun Qf hQf => ?_)
 refine wsr fun _ hK1=>?_
 refine stp (cs := [.int .i64 a1_0, .int .i64 a1_1, .int .i64 a1_2]) (T := 27) ?_
 intro b2 w3 hu4 lbb2 ltb2 hb2
 simp only[nm]
 iterate 2 (refine wpp fun k h=>?_;go_simp;apply h;clear h k)
 refine wln (hK1 _ _ ?_)
 refine wp_seq_k fun K5 hK5=>?_
 refine wsr fun _ hK6=>?_
 refine wpp fun k h=>?_;go_simp;apply h;clear h k
 refine stc (spec_l01Field.calls K a0 t7 w3  A8.out) ?_
 intro w9 hu10
 simp only[nm]
 refine wpp fun k h=>?_;go_simp;apply h;clear h k
 refine wln (hK6 _ _ ?_)
 by_cases c11 : (t7) = true
 rotate_left
 ·
  rw [if_neg c11] at H; replace c11 := Bool.eq_false_iff.mpr c11
  subst c11
  simp only [Option.some.injEq, Prod.mk.injEq] at H
  obtain ⟨rfl, rfl⟩ := H
  refine wp_cond_true rfl ?_
  refine wsr fun _ hK17=>?_
  iterate 2 (refine wpp fun k h=>?_;go_simp;apply h;clear h k)
  refine wln (hK17 _ _ ?_)
  refine wp_ret ?_
  refine hQf _ _ _ ?_
  exact bpr (v := .tuple #[.bool false, .int .i64 1]) ⟨rfl, (hu4.out.trans hu10.out)⟩
 rw [if_pos c11] at H
 subst c11
 obtain ⟨t13,A14,H⟩:=bnd H;try dsimp only at H
 simp only [Option.some.injEq, Prod.mk.injEq] at H
 obtain ⟨rfl, rfl⟩ := H
 refine wp_cond_false rfl ?_
 refine wp_skip ?_
 refine hK5 _ _ ?_
 refine wsr fun _ hK12=>?_
 refine wpp fun k h=>?_;go_simp;apply h;clear h k
 have cl0 := (hb2.up hu10.out).cell (o := 0) rfl
 have cl1 := (hb2.up hu10.out).cell (o := 1) rfl
 have cl2 := (hb2.up hu10.out).cell (o := 2) rfl
 refine wpp fun k h=>?_;go_simp;apply h;clear h k
 clear cl0 cl1 cl2
 refine stc (spec_l06Is.calls K a0 a1_0 a1_1 a1_2 t13 w9  A14.out) ?_
 intro w15 hu16
 simp only[nm]
 iterate 2 (refine wpp fun k h=>?_;go_simp;apply h;clear h k)
 refine wln (hK12 _ _ ?_)
 refine wp_ret ?_
 refine hQf _ _ _ ?_
 exact bpr (v := .tuple #[.bool t13, .int .i64 0]) ⟨rfl, ((hu4.out.trans hu10.out).trans hu16.out)⟩

set_option maxHeartbeats 40000000 in
set_option maxRecDepth 100000 in
theorem laws_FnCircles.calls (K : Nat) (a0_A : Option Addr) (a0_c : Nat) (a0 : List (Int)) (r0 : Bool) (w : World) (ha0 : Rd eU8 w a0_A a0) (h : laws_FnCircles.f K a0 = some (r0)) :
    Calls Tryz.prog 3 #[.slice a0_A a0.length a0_c] w fun e w' => e = .returned (.bool r0) ∧ Up w w' := by
 have H : (((laws_big.f K a0).bind fun t4 => (if t4 = true then some true else ((spec_DrawTangentAt.f K a0).bind fun (t11, t12, t13, t14, t15, t16, t17) => ((impl_TangentAt.f K t11 t12 t13 t14 t15 t16 t17).bind fun (t36, t37, t38, t39) => ((spec_TangentAt.f K t11 t12 t13 t14 t15 t16 t17).bind fun (t51, t52, t53, t54) => (if (t39 == t54) = true then (if (t36 == t51 && (t37 == t52 && t38 == t53)) = true then ((spec_DrawCircleThrough.f K a0).bind fun (t72, t73, t74, t75, t76, t77, t78, t79) => ((impl_CircleThrough.f K t72 t73 t74 t75 t76 t77 t78 t79).bind fun (t108, t109, t110, t111) => ((spec_CircleThrough.f K t72 t73 t74 t75 t76 t77 t78 t79).bind fun (t123, t124, t125, t126) => (if (t111 == t126) = true then (if (t108 == t123 && (t109 == t124 && t110 == t125)) = true then ((spec_DrawMeetLine.f K a0).bind fun (t145, t146, t147, t148, t149, t150, t151, t152) => ((impl_MeetLine.f K t145 t146 t147 t148 t149 t150 t151 t152).bind fun (t171, t174) => ((spec_MeetLine.f K t145 t146 t147 t148 t149 t150 t151 t152).bind fun (t180, t183) => (if (t174 == t183) = true then ((laws_points9.f K t171 t180).bind fun t191 => (if t191 = true then ((impl_PowerOf.f K t11 t12 t13 t14 t15 t16 t17).bind fun (t197, t198) => ((spec_PowerOf.f K t11 t12 t13 t14 t15 t16 t17).bind fun (t204, t205) => (if (t198 == t205) = true then (if (t197 == t204) = true then ((impl_InversePoint.f K t11 t12 t13 t14 t15 t16 t17).bind fun (t222, t223, t224) => ((spec_InversePoint.f K t11 t12 t13 t14 t15 t16 t17).bind fun (t236, t237, t238) => (if (t224 == t238) = true then (if (t222 == t236 && t223 == t237) = true then ((impl_IsCircle.f K t11 t13 t14 t15).bind fun (t254, t255) => ((spec_IsCircle.f K t11 t13 t14 t15).bind fun (t443, t444) => (if (t255 == t444) = true then (if t254 = true then (if t443 = true then (laws_FnCircles.j0 K t11 t12 t13 t14 t15 t16 t17 t36 t37 t38 t39 t72 t73 t74 t75 t76 t77 t78 t79 t108 t109 t110 t111 t197 t198 t222 t223 t224) else some false) else (if t443 = true then some false else (laws_FnCircles.j0 K t11 t12 t13 t14 t15 t16 t17 t36 t37 t38 t39 t72 t73 t74 t75 t76 t77 t78 t79 t108 t109 t110 t111 t197 t198 t222 t223 t224))) else some false))) else some false) else some false))) else some false) else some false))) else some false)) else some false)))) else some false) else some false)))) else some false) else some false)))))) : Option (Bool)) = some (r0) := h
 clear h
 obtain ⟨t4,A5,H⟩:=bnd H;try dsimp only at H
 refine calls_T [0] Tryz.func3 rfl Tryz.ntmps3 rfl fun B_ => ?_
 simp only [keepT,nthV,lookT_cons,lookT_nil,Nat.reduceEqDiff,↓reduceIte]
 refine wp_hide (fun Qf hQf => ?_)
 refine wsr fun _ hK1=>?_
 refine wpp fun k h=>?_;go_simp;apply h;clear h k
 refine wln (hK1 _ _ ?_)
 refine wp_seq_k fun K2 hK2=>?_
 refine wsr fun _ hK3=>?_
 refine wpp fun k h=>?_;go_simp;apply h;clear h k
 refine stc (laws_big.calls K a0_A a0_c a0 t4 w ha0 A5.out) ?_
 intro w6 hu7
 simp only[Act.put,mkT_set]
 refine wln (hK3 _ _ ?_)
 by_cases c8 : (t4) = true
 ·
  rw [if_pos c8] at H
  have HX := H;clear H;subst c8;have H := HX;clear HX
  obtain rfl := Option.some.inj H
  refine wp_cond_true (evT rfl rfl) ?_
  refine wsr fun _ hK9=>?_
  refine wpp fun k h=>?_;go_simp;apply h;clear h k
  refine wln (hK9 _ _ ?_)
  refine wp_ret ?_
  refine hQf _ _ _ ?_
  exact bpr (v := .bool true) ⟨rfl, hu7.out⟩
 rw [if_neg c8] at H; replace c8 := Bool.eq_false_iff.mpr c8
 have HX := H;clear H;subst c8;have H := HX;clear HX
 obtain ⟨⟨t11, t12, t13, t14, t15, t16, t17⟩,A18,H⟩:=bnd H;try dsimp only at H
 obtain ⟨⟨t36, t37, t38, t39⟩,A40,H⟩:=bnd H;try dsimp only at H
 obtain ⟨⟨t51, t52, t53, t54⟩,A55,H⟩:=bnd H;try dsimp only at H
 refine wp_cond_false (evT rfl rfl) ?_
 refine wp_skip ?_
 refine hK2 _ _ ?_
 refine wsr fun _ hK10=>?_
 refine wpp fun k h=>?_;go_simp;apply h;clear h k
 refine stc (spec_DrawTangentAt.calls K a0_A a0_c a0 t11 t12 t13 t14 t15 t16 t17 w6 (ha0.up hu7.out) A18.out) ?_
 intro w19 hu20
 simp only[Act.put,mkT_set]
 iterate 5 (refine wpp fun k h=>?_;go_simp;apply h;clear h k)
 refine stp (cs := [.int .i64 0, .int .i64 0, .int .i64 0]) (T := 27) ?_
 intro b21 w22 hu23 lbb21 ltb21 hb21
 simp only[Act.put,mkT_set]
 refine stp (cs := [.int .i64 0, .int .i64 0]) (T := 25) ?_
 intro b24 w25 hu26 lbb24 ltb24 hb24
 simp only[Act.put,mkT_set]
 iterate 2 (refine wpp fun k h=>?_;go_simp;apply h;clear h k)
 refine stw [.int .i64 t13, .int .i64 t14, .int .i64 t15] (hb21.up hu26.out) rfl rfl rfl (evT rfl rfl) (evT rfl rfl) (by kernel_rfl) rfl rfl ?_
 intro w27 hs28 hb29
 have h30 := hb24.sto hs28.out (Ne.symm (Nat.ne_of_lt (Nat.lt_of_lt_of_le ltb21.out lbb24.out)))
 refine stw [.int .i64 t16, .int .i64 t17] h30 rfl rfl rfl (evT rfl rfl) (evT rfl rfl) (by kernel_rfl) rfl rfl ?_
 intro w31 hs32 hb33
 have h34 := hb29.sto hs32.out (Nat.ne_of_lt (Nat.lt_of_lt_of_le ltb21.out lbb24.out))
 refine wln (hK10 _ _ ?_)
 refine wsr fun _ hK35=>?_
 iterate 2 (refine wpp fun k h=>?_;go_simp;apply h;clear h k)
 have cl0 := h34.cell (o := 0) rfl
 have cl1 := h34.cell (o := 1) rfl
 have cl2 := h34.cell (o := 2) rfl
 refine wpp fun k h=>?_;go_simp;apply h;clear h k
 clear cl0 cl1 cl2
 have cl0 := hb33.cell (o := 0) rfl
 have cl1 := hb33.cell (o := 1) rfl
 refine wpp fun k h=>?_;go_simp;apply h;clear h k
 clear cl0 cl1
 refine stc (impl_TangentAt.calls K t11 t12 t13 t14 t15 t16 t17 t36 t37 t38 t39 w31  A40.out) ?_
 intro w41 hu42
 simp only[Act.put,mkT_set]
 iterate 3 (refine wpp fun k h=>?_;go_simp;apply h;clear h k)
 refine stp (cs := [.int .i64 0, .int .i64 0, .int .i64 0]) (T := 31) ?_
 intro b43 w44 hu45 lbb43 ltb43 hb43
 simp only[Act.put,mkT_set]
 refine stw [.int .i64 t36, .int .i64 t37, .int .i64 t38] hb43 rfl rfl rfl (evT rfl rfl) (evT rfl rfl) (by kernel_rfl) rfl rfl ?_
 intro w46 hs47 hb48
 refine wpp fun k h=>?_;go_simp;apply h;clear h k
 refine wln (hK35 _ _ ?_)
 refine wp_seq_k fun K49 hK49=>?_
 refine wsr fun _ hK50=>?_
 iterate 2 (refine wpp fun k h=>?_;go_simp;apply h;clear h k)
 have cl0 := (h34.up ((hu42.out.trans hu45.out).sto (Nat.le_trans (hu42.out.size) lbb43.out) hs47.out)).cell (o := 0) rfl
 have cl1 := (h34.up ((hu42.out.trans hu45.out).sto (Nat.le_trans (hu42.out.size) lbb43.out) hs47.out)).cell (o := 1) rfl
 have cl2 := (h34.up ((hu42.out.trans hu45.out).sto (Nat.le_trans (hu42.out.size) lbb43.out) hs47.out)).cell (o := 2) rfl
 refine wpp fun k h=>?_;go_simp;apply h;clear h k
 clear cl0 cl1 cl2
 have cl0 := (hb33.up ((hu42.out.trans hu45.out).sto (Nat.le_trans (hu42.out.size) lbb43.out) hs47.out)).cell (o := 0) rfl
 have cl1 := (hb33.up ((hu42.out.trans hu45.out).sto (Nat.le_trans (hu42.out.size) lbb43.out) hs47.out)).cell (o := 1) rfl
 refine wpp fun k h=>?_;go_simp;apply h;clear h k
 clear cl0 cl1
 refine stc (spec_TangentAt.calls K t11 t12 t13 t14 t15 t16 t17 t51 t52 t53 t54 w46  A55.out) ?_
 intro w56 hu57
 simp only[Act.put,mkT_set]
 iterate 3 (refine wpp fun k h=>?_;go_simp;apply h;clear h k)
 refine stp (cs := [.int .i64 0, .int .i64 0, .int .i64 0]) (T := 31) ?_
 intro b58 w59 hu60 lbb58 ltb58 hb58
 simp only[Act.put,mkT_set]
 refine stw [.int .i64 t51, .int .i64 t52, .int .i64 t53] hb58 rfl rfl rfl (evT rfl rfl) (evT rfl rfl) (by kernel_rfl) rfl rfl ?_
 intro w61 hs62 hb63
 refine wpp fun k h=>?_;go_simp;apply h;clear h k
 refine wln (hK50 _ _ ?_)
 refine wsr fun _ hK64=>?_
 iterate 4 (refine wpp fun k h=>?_;go_simp;apply h;clear h k)
 have hm66 := Aside0.mk ((((((((((hu20.out.trans hu23.out).trans hu26.out).sto (Nat.le_trans (hu20.out.size) lbb21.out) hs28.out).sto (Nat.le_trans ((Nat.le_trans (hu20.out.size) hu23.out.size)) lbb24.out) hs32.out).trans hu42.out).trans hu45.out).sto (Nat.le_trans ((Nat.le_trans ((Nat.le_trans ((Nat.le_trans ((Nat.le_trans ((Nat.le_trans (hu20.out.size) hu23.out.size)) hu26.out.size)) (Nat.le_of_eq hs28.out.size.symm))) (Nat.le_of_eq hs32.out.size.symm))) hu42.out.size)) lbb43.out) hs47.out).trans hu57.out).trans hu60.out).sto (Nat.le_trans ((Nat.le_trans ((Nat.le_trans ((Nat.le_trans ((Nat.le_trans ((Nat.le_trans ((Nat.le_trans ((Nat.le_trans ((Nat.le_trans (hu20.out.size) hu23.out.size)) hu26.out.size)) (Nat.le_of_eq hs28.out.size.symm))) (Nat.le_of_eq hs32.out.size.symm))) hu42.out.size)) hu45.out.size)) (Nat.le_of_eq hs47.out.size.symm))) hu57.out.size)) lbb58.out) hs62.out)
 have h67 := (h34.up (((((hu42.out.trans hu45.out).sto (Nat.le_trans (hu42.out.size) lbb43.out) hs47.out).trans hu57.out).trans hu60.out).sto (Nat.le_trans ((Nat.le_trans ((Nat.le_trans ((Nat.le_trans (hu42.out.size) hu45.out.size)) (Nat.le_of_eq hs47.out.size.symm))) hu57.out.size)) lbb58.out) hs62.out))
 have h68 := (hb33.up (((((hu42.out.trans hu45.out).sto (Nat.le_trans (hu42.out.size) lbb43.out) hs47.out).trans hu57.out).trans hu60.out).sto (Nat.le_trans ((Nat.le_trans ((Nat.le_trans ((Nat.le_trans (hu42.out.size) hu45.out.size)) (Nat.le_of_eq hs47.out.size.symm))) hu57.out.size)) lbb58.out) hs62.out))
 have h69 := (hb48.up ((hu57.out.trans hu60.out).sto (Nat.le_trans (hu57.out.size) lbb58.out) hs62.out))
 by_cases c65 : (t39 == t54) = true
 rotate_left
 ·
  rw [if_neg c65] at H; replace c65 := Bool.eq_false_iff.mpr c65
  have c65n : (t39 != t54) = true := by rw [bne, c65]; rfl
  have c65p : ¬ t39 = t54 := fun e => by simp [e] at c65
  obtain rfl := Option.some.inj H
  try simp only [c65, c65n, Bool.not_true, Bool.not_false]
  refine step_no (wantT rfl rfl rfl rfl) ?_
  simp only[Act.put,mkT_set]
  refine step_no (wantT rfl rfl rfl rfl) ?_
  simp only[Act.put,mkT_set]
  refine step_no (wantT rfl rfl rfl rfl) ?_
  simp only[Act.put,mkT_set]
  refine wpp fun k h=>?_;go_simp;apply h;clear h k
  refine wln (hK64 _ _ ?_)
  refine wp_cond_true (evT rfl rfl) ?_
  refine wsr fun _ hK466=>?_
  refine wpp fun k h=>?_;go_simp;apply h;clear h k
  refine wln (hK466 _ _ ?_)
  refine wp_ret ?_
  refine hQf _ _ _ ?_
  exact bpr (v := .bool false) ⟨rfl, (hu7.out.trans hm66.out)⟩
 rw [if_pos c65] at H
 have c65n : (t39 != t54) = false := by rw [bne, c65]; rfl
 try simp only [c65, c65n, Bool.not_true, Bool.not_false]
 have cl0 := h69.cell (o := 0) rfl
 have cl1 := h69.cell (o := 1) rfl
 have cl2 := h69.cell (o := 2) rfl
 refine BigFrame.wpList_want (wantT rfl rfl rfl rfl) fun k h=>?_;go_simp;apply h;clear h k
 clear cl0 cl1 cl2
 have cl0 := hb63.cell (o := 0) rfl
 have cl1 := hb63.cell (o := 1) rfl
 have cl2 := hb63.cell (o := 2) rfl
 refine BigFrame.wpList_want (wantT rfl rfl rfl rfl) fun k h=>?_;go_simp;apply h;clear h k
 clear cl0 cl1 cl2
 refine BigFrame.wpList_want (wantT rfl rfl rfl rfl) fun k h=>?_;go_simp;apply h;clear h k
 refine wpp fun k h=>?_;go_simp;apply h;clear h k
 refine wln (hK64 _ _ ?_)
 by_cases c70 : (t36 == t51 && (t37 == t52 && t38 == t53)) = true
 rotate_left
 ·
  rw [if_neg c70] at H; replace c70 := Bool.eq_false_iff.mpr c70
  have c70n : (!t36 == t51 || (!t37 == t52 || !t38 == t53)) = true := by simp only [← Bool.not_and, c70, Bool.not_true, Bool.not_false]
  obtain rfl := Option.some.inj H
  try simp only [c70, c70n, Bool.not_true, Bool.not_false]
  refine wp_cond_true (evT rfl rfl) ?_
  refine wsr fun _ hK465=>?_
  refine wpp fun k h=>?_;go_simp;apply h;clear h k
  refine wln (hK465 _ _ ?_)
  refine wp_ret ?_
  refine hQf _ _ _ ?_
  exact bpr (v := .bool false) ⟨rfl, (hu7.out.trans hm66.out)⟩
 rw [if_pos c70] at H
 have c70n : (!t36 == t51 || (!t37 == t52 || !t38 == t53)) = false := by simp only [← Bool.not_and, c70, Bool.not_true, Bool.not_false]
 obtain ⟨⟨t72, t73, t74, t75, t76, t77, t78, t79⟩,A80,H⟩:=bnd H;try dsimp only at H
 obtain ⟨⟨t108, t109, t110, t111⟩,A112,H⟩:=bnd H;try dsimp only at H
 obtain ⟨⟨t123, t124, t125, t126⟩,A127,H⟩:=bnd H;try dsimp only at H
 try simp only [c70, c70n, Bool.not_true, Bool.not_false]
 refine wp_cond_false (evT rfl rfl) ?_
 refine wp_skip ?_
 refine hK49 _ _ ?_
 refine wsr fun _ hK71=>?_
 refine wpp fun k h=>?_;go_simp;apply h;clear h k
 refine stc (spec_DrawCircleThrough.calls K a0_A a0_c a0 t72 t73 t74 t75 t76 t77 t78 t79 w61 (ha0.up (hu7.out.trans hm66.out)) A80.out) ?_
 intro w81 hu82
 simp only[Act.put,mkT_set]
 iterate 6 (refine wpp fun k h=>?_;go_simp;apply h;clear h k)
 refine stp (cs := [.int .i64 0, .int .i64 0]) (T := 25) ?_
 intro b83 w84 hu85 lbb83 ltb83 hb83
 simp only[Act.put,mkT_set]
 refine stp (cs := [.int .i64 0, .int .i64 0]) (T := 25) ?_
 intro b86 w87 hu88 lbb86 ltb86 hb86
 simp only[Act.put,mkT_set]
 refine stp (cs := [.int .i64 0, .int .i64 0]) (T := 25) ?_
 intro b89 w90 hu91 lbb89 ltb89 hb89
 simp only[Act.put,mkT_set]
 iterate 2 (refine wpp fun k h=>?_;go_simp;apply h;clear h k)
 refine stw [.int .i64 t74, .int .i64 t75] (hb83.up (hu88.out.trans hu91.out)) rfl rfl rfl (evT rfl rfl) (evT rfl rfl) (by kernel_rfl) rfl rfl ?_
 intro w92 hs93 hb94
 have h95 := (hb86.up hu91.out).sto hs93.out (Ne.symm (Nat.ne_of_lt (Nat.lt_of_lt_of_le ltb83.out lbb86.out)))
 have h96 := hb89.sto hs93.out (Ne.symm (Nat.ne_of_lt (Nat.lt_of_lt_of_le (Nat.lt_of_lt_of_le ltb83.out (hu88.out.size)) lbb89.out)))
 refine stw [.int .i64 t76, .int .i64 t77] h95 rfl rfl rfl (evT rfl rfl) (evT rfl rfl) (by kernel_rfl) rfl rfl ?_
 intro w97 hs98 hb99
 have h100 := hb94.sto hs98.out (Nat.ne_of_lt (Nat.lt_of_lt_of_le ltb83.out lbb86.out))
 have h101 := h96.sto hs98.out (Ne.symm (Nat.ne_of_lt (Nat.lt_of_lt_of_le ltb86.out lbb89.out)))
 refine stw [.int .i64 t78, .int .i64 t79] h101 rfl rfl rfl (evT rfl rfl) (evT rfl rfl) (by kernel_rfl) rfl rfl ?_
 intro w102 hs103 hb104
 have h105 := h100.sto hs103.out (Nat.ne_of_lt (Nat.lt_of_lt_of_le (Nat.lt_of_lt_of_le ltb83.out (hu88.out.size)) lbb89.out))
 have h106 := hb99.sto hs103.out (Nat.ne_of_lt (Nat.lt_of_lt_of_le ltb86.out lbb89.out))
 refine wln (hK71 _ _ ?_)
 refine wsr fun _ hK107=>?_
 iterate 2 (refine wpp fun k h=>?_;go_simp;apply h;clear h k)
 have cl0 := h105.cell (o := 0) rfl
 have cl1 := h105.cell (o := 1) rfl
 refine wpp fun k h=>?_;go_simp;apply h;clear h k
 clear cl0 cl1
 have cl0 := h106.cell (o := 0) rfl
 have cl1 := h106.cell (o := 1) rfl
 refine wpp fun k h=>?_;go_simp;apply h;clear h k
 clear cl0 cl1
 have cl0 := hb104.cell (o := 0) rfl
 have cl1 := hb104.cell (o := 1) rfl
 refine wpp fun k h=>?_;go_simp;apply h;clear h k
 clear cl0 cl1
 refine stc (impl_CircleThrough.calls K t72 t73 t74 t75 t76 t77 t78 t79 t108 t109 t110 t111 w102  A112.out) ?_
 intro w113 hu114
 simp only[Act.put,mkT_set]
 iterate 3 (refine wpp fun k h=>?_;go_simp;apply h;clear h k)
 refine stp (cs := [.int .i64 0, .int .i64 0, .int .i64 0]) (T := 27) ?_
 intro b115 w116 hu117 lbb115 ltb115 hb115
 simp only[Act.put,mkT_set]
 refine stw [.int .i64 t108, .int .i64 t109, .int .i64 t110] hb115 rfl rfl rfl (evT rfl rfl) (evT rfl rfl) (by kernel_rfl) rfl rfl ?_
 intro w118 hs119 hb120
 refine wpp fun k h=>?_;go_simp;apply h;clear h k
 refine wln (hK107 _ _ ?_)
 refine wp_seq_k fun K121 hK121=>?_
 refine wsr fun _ hK122=>?_
 iterate 2 (refine wpp fun k h=>?_;go_simp;apply h;clear h k)
 have cl0 := (h105.up ((hu114.out.trans hu117.out).sto (Nat.le_trans (hu114.out.size) lbb115.out) hs119.out)).cell (o := 0) rfl
 have cl1 := (h105.up ((hu114.out.trans hu117.out).sto (Nat.le_trans (hu114.out.size) lbb115.out) hs119.out)).cell (o := 1) rfl
 refine wpp fun k h=>?_;go_simp;apply h;clear h k
 clear cl0 cl1
 have cl0 := (h106.up ((hu114.out.trans hu117.out).sto (Nat.le_trans (hu114.out.size) lbb115.out) hs119.out)).cell (o := 0) rfl
 have cl1 := (h106.up ((hu114.out.trans hu117.out).sto (Nat.le_trans (hu114.out.size) lbb115.out) hs119.out)).cell (o := 1) rfl
 refine wpp fun k h=>?_;go_simp;apply h;clear h k
 clear cl0 cl1
 have cl0 := (hb104.up ((hu114.out.trans hu117.out).sto (Nat.le_trans (hu114.out.size) lbb115.out) hs119.out)).cell (o := 0) rfl
 have cl1 := (hb104.up ((hu114.out.trans hu117.out).sto (Nat.le_trans (hu114.out.size) lbb115.out) hs119.out)).cell (o := 1) rfl
 refine wpp fun k h=>?_;go_simp;apply h;clear h k
 clear cl0 cl1
 refine stc (spec_CircleThrough.calls K t72 t73 t74 t75 t76 t77 t78 t79 t123 t124 t125 t126 w118  A127.out) ?_
 intro w128 hu129
 simp only[Act.put,mkT_set]
 iterate 3 (refine wpp fun k h=>?_;go_simp;apply h;clear h k)
 refine stp (cs := [.int .i64 0, .int .i64 0, .int .i64 0]) (T := 27) ?_
 intro b130 w131 hu132 lbb130 ltb130 hb130
 simp only[Act.put,mkT_set]
 refine stw [.int .i64 t123, .int .i64 t124, .int .i64 t125] hb130 rfl rfl rfl (evT rfl rfl) (evT rfl rfl) (by kernel_rfl) rfl rfl ?_
 intro w133 hs134 hb135
 refine wpp fun k h=>?_;go_simp;apply h;clear h k
 refine wln (hK122 _ _ ?_)
 refine wsr fun _ hK136=>?_
 iterate 4 (refine wpp fun k h=>?_;go_simp;apply h;clear h k)
 have hm138 := Aside0.mk ((((((((((((hu82.out.trans hu85.out).trans hu88.out).trans hu91.out).sto (Nat.le_trans (hu82.out.size) lbb83.out) hs93.out).sto (Nat.le_trans ((Nat.le_trans (hu82.out.size) hu85.out.size)) lbb86.out) hs98.out).sto (Nat.le_trans ((Nat.le_trans ((Nat.le_trans (hu82.out.size) hu85.out.size)) hu88.out.size)) lbb89.out) hs103.out).trans hu114.out).trans hu117.out).sto (Nat.le_trans ((Nat.le_trans ((Nat.le_trans ((Nat.le_trans ((Nat.le_trans ((Nat.le_trans ((Nat.le_trans ((Nat.le_trans (hu82.out.size) hu85.out.size)) hu88.out.size)) hu91.out.size)) (Nat.le_of_eq hs93.out.size.symm))) (Nat.le_of_eq hs98.out.size.symm))) (Nat.le_of_eq hs103.out.size.symm))) hu114.out.size)) lbb115.out) hs119.out).trans hu129.out).trans hu132.out).sto (Nat.le_trans ((Nat.le_trans ((Nat.le_trans ((Nat.le_trans ((Nat.le_trans ((Nat.le_trans ((Nat.le_trans ((Nat.le_trans ((Nat.le_trans ((Nat.le_trans ((Nat.le_trans (hu82.out.size) hu85.out.size)) hu88.out.size)) hu91.out.size)) (Nat.le_of_eq hs93.out.size.symm))) (Nat.le_of_eq hs98.out.size.symm))) (Nat.le_of_eq hs103.out.size.symm))) hu114.out.size)) hu117.out.size)) (Nat.le_of_eq hs119.out.size.symm))) hu129.out.size)) lbb130.out) hs134.out)
 have h139 := (h105.up (((((hu114.out.trans hu117.out).sto (Nat.le_trans (hu114.out.size) lbb115.out) hs119.out).trans hu129.out).trans hu132.out).sto (Nat.le_trans ((Nat.le_trans ((Nat.le_trans ((Nat.le_trans (hu114.out.size) hu117.out.size)) (Nat.le_of_eq hs119.out.size.symm))) hu129.out.size)) lbb130.out) hs134.out))
 have h140 := (h106.up (((((hu114.out.trans hu117.out).sto (Nat.le_trans (hu114.out.size) lbb115.out) hs119.out).trans hu129.out).trans hu132.out).sto (Nat.le_trans ((Nat.le_trans ((Nat.le_trans ((Nat.le_trans (hu114.out.size) hu117.out.size)) (Nat.le_of_eq hs119.out.size.symm))) hu129.out.size)) lbb130.out) hs134.out))
 have h141 := (hb104.up (((((hu114.out.trans hu117.out).sto (Nat.le_trans (hu114.out.size) lbb115.out) hs119.out).trans hu129.out).trans hu132.out).sto (Nat.le_trans ((Nat.le_trans ((Nat.le_trans ((Nat.le_trans (hu114.out.size) hu117.out.size)) (Nat.le_of_eq hs119.out.size.symm))) hu129.out.size)) lbb130.out) hs134.out))
 have h142 := (hb120.up ((hu129.out.trans hu132.out).sto (Nat.le_trans (hu129.out.size) lbb130.out) hs134.out))
 by_cases c137 : (t111 == t126) = true
 rotate_left
 ·
  rw [if_neg c137] at H; replace c137 := Bool.eq_false_iff.mpr c137
  have c137n : (t111 != t126) = true := by rw [bne, c137]; rfl
  have c137p : ¬ t111 = t126 := fun e => by simp [e] at c137
  obtain rfl := Option.some.inj H
  try simp only [c137, c137n, Bool.not_true, Bool.not_false]
  refine step_no (wantT rfl rfl rfl rfl) ?_
  simp only[Act.put,mkT_set]
  refine step_no (wantT rfl rfl rfl rfl) ?_
  simp only[Act.put,mkT_set]
  refine step_no (wantT rfl rfl rfl rfl) ?_
  simp only[Act.put,mkT_set]
  refine wpp fun k h=>?_;go_simp;apply h;clear h k
  refine wln (hK136 _ _ ?_)
  refine wp_cond_true (evT rfl rfl) ?_
  refine wsr fun _ hK464=>?_
  refine wpp fun k h=>?_;go_simp;apply h;clear h k
  refine wln (hK464 _ _ ?_)
  refine wp_ret ?_
  refine hQf _ _ _ ?_
  exact bpr (v := .bool false) ⟨rfl, ((hu7.out.trans hm66.out).trans hm138.out)⟩
 rw [if_pos c137] at H
 have c137n : (t111 != t126) = false := by rw [bne, c137]; rfl
 try simp only [c137, c137n, Bool.not_true, Bool.not_false]
 have cl0 := h142.cell (o := 0) rfl
 have cl1 := h142.cell (o := 1) rfl
 have cl2 := h142.cell (o := 2) rfl
 refine BigFrame.wpList_want (wantT rfl rfl rfl rfl) fun k h=>?_;go_simp;apply h;clear h k
 clear cl0 cl1 cl2
 have cl0 := hb135.cell (o := 0) rfl
 have cl1 := hb135.cell (o := 1) rfl
 have cl2 := hb135.cell (o := 2) rfl
 refine BigFrame.wpList_want (wantT rfl rfl rfl rfl) fun k h=>?_;go_simp;apply h;clear h k
 clear cl0 cl1 cl2
 refine BigFrame.wpList_want (wantT rfl rfl rfl rfl) fun k h=>?_;go_simp;apply h;clear h k
 refine wpp fun k h=>?_;go_simp;apply h;clear h k
 refine wln (hK136 _ _ ?_)
 by_cases c143 : (t108 == t123 && (t109 == t124 && t110 == t125)) = true
 rotate_left
 ·
  rw [if_neg c143] at H; replace c143 := Bool.eq_false_iff.mpr c143
  have c143n : (!t108 == t123 || (!t109 == t124 || !t110 == t125)) = true := by simp only [← Bool.not_and, c143, Bool.not_true, Bool.not_false]
  obtain rfl := Option.some.inj H
  try simp only [c143, c143n, Bool.not_true, Bool.not_false]
  refine wp_cond_true (evT rfl rfl) ?_
  refine wsr fun _ hK463=>?_
  refine wpp fun k h=>?_;go_simp;apply h;clear h k
  refine wln (hK463 _ _ ?_)
  refine wp_ret ?_
  refine hQf _ _ _ ?_
  exact bpr (v := .bool false) ⟨rfl, ((hu7.out.trans hm66.out).trans hm138.out)⟩
 rw [if_pos c143] at H
 have c143n : (!t108 == t123 || (!t109 == t124 || !t110 == t125)) = false := by simp only [← Bool.not_and, c143, Bool.not_true, Bool.not_false]
 obtain ⟨⟨t145, t146, t147, t148, t149, t150, t151, t152⟩,A153,H⟩:=bnd H;try dsimp only at H
 obtain ⟨⟨t171, t174⟩,A175,H⟩:=bnd H;try dsimp only at H
 obtain ⟨⟨t180, t183⟩,A184,H⟩:=bnd H;try dsimp only at H
 try simp only [c143, c143n, Bool.not_true, Bool.not_false]
 refine wp_cond_false (evT rfl rfl) ?_
 refine wp_skip ?_
 refine hK121 _ _ ?_
 refine wsr fun _ hK144=>?_
 refine wpp fun k h=>?_;go_simp;apply h;clear h k
 refine stc (spec_DrawMeetLine.calls K a0_A a0_c a0 t145 t146 t147 t148 t149 t150 t151 t152 w133 (ha0.up ((hu7.out.trans hm66.out).trans hm138.out)) A153.out) ?_
 intro w154 hu155
 simp only[Act.put,mkT_set]
 iterate 5 (refine wpp fun k h=>?_;go_simp;apply h;clear h k)
 refine stp (cs := [.int .i64 0, .int .i64 0, .int .i64 0]) (T := 27) ?_
 intro b156 w157 hu158 lbb156 ltb156 hb156
 simp only[Act.put,mkT_set]
 refine stp (cs := [.int .i64 0, .int .i64 0, .int .i64 0]) (T := 31) ?_
 intro b159 w160 hu161 lbb159 ltb159 hb159
 simp only[Act.put,mkT_set]
 iterate 2 (refine wpp fun k h=>?_;go_simp;apply h;clear h k)
 refine stw [.int .i64 t147, .int .i64 t148, .int .i64 t149] (hb156.up hu161.out) rfl rfl rfl (evT rfl rfl) (evT rfl rfl) (by kernel_rfl) rfl rfl ?_
 intro w162 hs163 hb164
 have h165 := hb159.sto hs163.out (Ne.symm (Nat.ne_of_lt (Nat.lt_of_lt_of_le ltb156.out lbb159.out)))
 refine stw [.int .i64 t150, .int .i64 t151, .int .i64 t152] h165 rfl rfl rfl (evT rfl rfl) (evT rfl rfl) (by kernel_rfl) rfl rfl ?_
 intro w166 hs167 hb168
 have h169 := hb164.sto hs167.out (Nat.ne_of_lt (Nat.lt_of_lt_of_le ltb156.out lbb159.out))
 refine wln (hK144 _ _ ?_)
 refine wsr fun _ hK170=>?_
 iterate 2 (refine wpp fun k h=>?_;go_simp;apply h;clear h k)
 have cl0 := h169.cell (o := 0) rfl
 have cl1 := h169.cell (o := 1) rfl
 have cl2 := h169.cell (o := 2) rfl
 refine wpp fun k h=>?_;go_simp;apply h;clear h k
 clear cl0 cl1 cl2
 have cl0 := hb168.cell (o := 0) rfl
 have cl1 := hb168.cell (o := 1) rfl
 have cl2 := hb168.cell (o := 2) rfl
 refine wpp fun k h=>?_;go_simp;apply h;clear h k
 clear cl0 cl1 cl2
 refine step_call wn (by go_simp <;> rfl) (impl_MeetLine.calls K t145 t146 t147 t148 t149 t150 t151 t152 t171 t174 w166  A175.out) ?_
 rintro e w176 ⟨P172, q173, rfl, ht171, hu⟩
 have hu177 := Aside0.mk hu
 clear hu
 refine ⟨_, rfl, ?_⟩
 simp only[Act.put,mkT_set]
 iterate 5 (refine wpp fun k h=>?_;go_simp;apply h;clear h k)
 refine wln (hK170 _ _ ?_)
 refine wp_seq_k fun K178 hK178=>?_
 refine wsr fun _ hK179=>?_
 iterate 2 (refine wpp fun k h=>?_;go_simp;apply h;clear h k)
 have cl0 := (h169.up hu177.out).cell (o := 0) rfl
 have cl1 := (h169.up hu177.out).cell (o := 1) rfl
 have cl2 := (h169.up hu177.out).cell (o := 2) rfl
 refine wpp fun k h=>?_;go_simp;apply h;clear h k
 clear cl0 cl1 cl2
 have cl0 := (hb168.up hu177.out).cell (o := 0) rfl
 have cl1 := (hb168.up hu177.out).cell (o := 1) rfl
 have cl2 := (hb168.up hu177.out).cell (o := 2) rfl
 refine wpp fun k h=>?_;go_simp;apply h;clear h k
 clear cl0 cl1 cl2
 refine step_call wn (by go_simp <;> rfl) (spec_MeetLine.calls K t145 t146 t147 t148 t149 t150 t151 t152 t180 t183 w176  A184.out) ?_
 rintro e w185 ⟨P181, q182, rfl, ht180, hu⟩
 have hu186 := Aside0.mk hu
 clear hu
 refine ⟨_, rfl, ?_⟩
 simp only[Act.put,mkT_set]
 iterate 5 (refine wpp fun k h=>?_;go_simp;apply h;clear h k)
 refine wln (hK179 _ _ ?_)
 refine wsr fun _ hK187=>?_
 iterate 4 (refine wpp fun k h=>?_;go_simp;apply h;clear h k)
 have hm189 := Aside0.mk ((((((hu155.out.trans hu158.out).trans hu161.out).sto (Nat.le_trans (hu155.out.size) lbb156.out) hs163.out).sto (Nat.le_trans ((Nat.le_trans (hu155.out.size) hu158.out.size)) lbb159.out) hs167.out).trans hu177.out).trans hu186.out)
 by_cases c188 : (t174 == t183) = true
 rotate_left
 ·
  rw [if_neg c188] at H; replace c188 := Bool.eq_false_iff.mpr c188
  have c188n : (t174 != t183) = true := by rw [bne, c188]; rfl
  have c188p : ¬ t174 = t183 := fun e => by simp [e] at c188
  obtain rfl := Option.some.inj H
  try simp only [c188, c188n, Bool.not_true, Bool.not_false]
  refine step_no (wantT rfl rfl rfl rfl) ?_
  simp only[Act.put,mkT_set]
  refine step_no (wantT rfl rfl rfl rfl) ?_
  simp only[Act.put,mkT_set]
  refine step_no (wantT rfl rfl rfl rfl) ?_
  simp only[Act.put,mkT_set]
  refine step_no (wantT rfl rfl rfl rfl) ?_
  simp only[Act.put,mkT_set]
  refine wpp fun k h=>?_;go_simp;apply h;clear h k
  refine wln (hK187 _ _ ?_)
  refine wp_cond_true (evT rfl rfl) ?_
  refine wsr fun _ hK462=>?_
  refine wpp fun k h=>?_;go_simp;apply h;clear h k
  refine wln (hK462 _ _ ?_)
  refine wp_ret ?_
  refine hQf _ _ _ ?_
  exact bpr (v := .bool false) ⟨rfl, (((hu7.out.trans hm66.out).trans hm138.out).trans hm189.out)⟩
 rw [if_pos c188] at H
 have c188n : (t174 != t183) = false := by rw [bne, c188]; rfl
 obtain ⟨t191,A192,H⟩:=bnd H;try dsimp only at H
 try simp only [c188, c188n, Bool.not_true, Bool.not_false]
 refine BigFrame.wpList_want (wantT rfl rfl rfl rfl) fun k h=>?_;go_simp;apply h;clear h k
 refine BigFrame.wpList_want (wantT rfl rfl rfl rfl) fun k h=>?_;go_simp;apply h;clear h k
 refine step_call (wantT rfl rfl rfl rfl) (by go_simp <;> rfl) (laws_points9.calls K P172 q173 t171 P181 q182 t180 t191 w185 ((ht171.up hu186.out).rd) ht180.rd A192.out) ?_
 rintro e w193 ⟨rfl, hu⟩
 have hu194 := Aside0.mk hu
 clear hu
 refine ⟨_, rfl, ?_⟩
 simp only[Act.put,mkT_set]
 refine BigFrame.wpList_want (wantT rfl rfl rfl rfl) fun k h=>?_;go_simp;apply h;clear h k
 refine wpp fun k h=>?_;go_simp;apply h;clear h k
 refine wln (hK187 _ _ ?_)
 by_cases c195 : (t191) = true
 rotate_left
 ·
  rw [if_neg c195] at H; replace c195 := Bool.eq_false_iff.mpr c195
  have HX := H;clear H;subst c195;have H := HX;clear HX
  obtain rfl := Option.some.inj H
  refine wp_cond_true (evT rfl rfl) ?_
  refine wsr fun _ hK461=>?_
  refine wpp fun k h=>?_;go_simp;apply h;clear h k
  refine wln (hK461 _ _ ?_)
  refine wp_ret ?_
  refine hQf _ _ _ ?_
  exact bpr (v := .bool false) ⟨rfl, ((((hu7.out.trans hm66.out).trans hm138.out).trans hm189.out).trans hu194.out)⟩
 rw [if_pos c195] at H
 have HX := H;clear H;subst c195;have H := HX;clear HX
 obtain ⟨⟨t197, t198⟩,A199,H⟩:=bnd H;try dsimp only at H
 obtain ⟨⟨t204, t205⟩,A206,H⟩:=bnd H;try dsimp only at H
 refine wp_cond_false (evT rfl rfl) ?_
 refine wp_skip ?_
 refine hK178 _ _ ?_
 refine wsr fun _ hK196=>?_
 iterate 2 (refine wpp fun k h=>?_;go_simp;apply h;clear h k)
 have cl0 := (h67.up ((hm138.out.trans hm189.out).trans hu194.out)).cell (o := 0) rfl
 have cl1 := (h67.up ((hm138.out.trans hm189.out).trans hu194.out)).cell (o := 1) rfl
 have cl2 := (h67.up ((hm138.out.trans hm189.out).trans hu194.out)).cell (o := 2) rfl
 refine wpp fun k h=>?_;go_simp;apply h;clear h k
 clear cl0 cl1 cl2
 have cl0 := (h68.up ((hm138.out.trans hm189.out).trans hu194.out)).cell (o := 0) rfl
 have cl1 := (h68.up ((hm138.out.trans hm189.out).trans hu194.out)).cell (o := 1) rfl
 refine wpp fun k h=>?_;go_simp;apply h;clear h k
 clear cl0 cl1
 refine stc (impl_PowerOf.calls K t11 t12 t13 t14 t15 t16 t17 t197 t198 w193  A199.out) ?_
 intro w200 hu201
 simp only[Act.put,mkT_set]
 iterate 5 (refine wpp fun k h=>?_;go_simp;apply h;clear h k)
 refine wln (hK196 _ _ ?_)
 refine wp_seq_k fun K202 hK202=>?_
 refine wsr fun _ hK203=>?_
 iterate 2 (refine wpp fun k h=>?_;go_simp;apply h;clear h k)
 have cl0 := (h67.up (((hm138.out.trans hm189.out).trans hu194.out).trans hu201.out)).cell (o := 0) rfl
 have cl1 := (h67.up (((hm138.out.trans hm189.out).trans hu194.out).trans hu201.out)).cell (o := 1) rfl
 have cl2 := (h67.up (((hm138.out.trans hm189.out).trans hu194.out).trans hu201.out)).cell (o := 2) rfl
 refine wpp fun k h=>?_;go_simp;apply h;clear h k
 clear cl0 cl1 cl2
 have cl0 := (h68.up (((hm138.out.trans hm189.out).trans hu194.out).trans hu201.out)).cell (o := 0) rfl
 have cl1 := (h68.up (((hm138.out.trans hm189.out).trans hu194.out).trans hu201.out)).cell (o := 1) rfl
 refine wpp fun k h=>?_;go_simp;apply h;clear h k
 clear cl0 cl1
 refine stc (spec_PowerOf.calls K t11 t12 t13 t14 t15 t16 t17 t204 t205 w200  A206.out) ?_
 intro w207 hu208
 simp only[Act.put,mkT_set]
 iterate 5 (refine wpp fun k h=>?_;go_simp;apply h;clear h k)
 refine wln (hK203 _ _ ?_)
 refine wsr fun _ hK209=>?_
 iterate 4 (refine wpp fun k h=>?_;go_simp;apply h;clear h k)
 have hm211 := Aside0.mk ((((((hu7.out.trans hm66.out).trans hm138.out).trans hm189.out).trans hu194.out).trans hu201.out).trans hu208.out)
 have h213 := (h67.up ((((hm138.out.trans hm189.out).trans hu194.out).trans hu201.out).trans hu208.out))
 have h214 := (h68.up ((((hm138.out.trans hm189.out).trans hu194.out).trans hu201.out).trans hu208.out))
 have h215 := (h69.up ((((hm138.out.trans hm189.out).trans hu194.out).trans hu201.out).trans hu208.out))
 have h216 := (h139.up (((hm189.out.trans hu194.out).trans hu201.out).trans hu208.out))
 have h217 := (h140.up (((hm189.out.trans hu194.out).trans hu201.out).trans hu208.out))
 have h218 := (h141.up (((hm189.out.trans hu194.out).trans hu201.out).trans hu208.out))
 have h219 := (h142.up (((hm189.out.trans hu194.out).trans hu201.out).trans hu208.out))
 by_cases c210 : (t198 == t205) = true
 rotate_left
 ·
  rw [if_neg c210] at H; replace c210 := Bool.eq_false_iff.mpr c210
  have c210n : (t198 != t205) = true := by rw [bne, c210]; rfl
  have c210p : ¬ t198 = t205 := fun e => by simp [e] at c210
  obtain rfl := Option.some.inj H
  try simp only [c210, c210n, Bool.not_true, Bool.not_false]
  refine step_no (wantT rfl rfl rfl rfl) ?_
  simp only[Act.put,mkT_set]
  refine step_no (wantT rfl rfl rfl rfl) ?_
  simp only[Act.put,mkT_set]
  refine step_no (wantT rfl rfl rfl rfl) ?_
  simp only[Act.put,mkT_set]
  refine wpp fun k h=>?_;go_simp;apply h;clear h k
  refine wln (hK209 _ _ ?_)
  refine wp_cond_true (evT rfl rfl) ?_
  refine wsr fun _ hK460=>?_
  refine wpp fun k h=>?_;go_simp;apply h;clear h k
  refine wln (hK460 _ _ ?_)
  refine wp_ret ?_
  refine hQf _ _ _ ?_
  exact bpr (v := .bool false) ⟨rfl, hm211.out⟩
 rw [if_pos c210] at H
 have c210n : (t198 != t205) = false := by rw [bne, c210]; rfl
 try simp only [c210, c210n, Bool.not_true, Bool.not_false]
 refine BigFrame.wpList_want (wantT rfl rfl rfl rfl) fun k h=>?_;go_simp;apply h;clear h k
 refine BigFrame.wpList_want (wantT rfl rfl rfl rfl) fun k h=>?_;go_simp;apply h;clear h k
 refine BigFrame.wpList_want (wantT rfl rfl rfl rfl) fun k h=>?_;go_simp;apply h;clear h k
 refine wpp fun k h=>?_;go_simp;apply h;clear h k
 refine wln (hK209 _ _ ?_)
 by_cases c220 : (t197 == t204) = true
 rotate_left
 ·
  rw [if_neg c220] at H; replace c220 := Bool.eq_false_iff.mpr c220
  have c220n : (t197 != t204) = true := by rw [bne, c220]; rfl
  have c220p : ¬ t197 = t204 := fun e => by simp [e] at c220
  obtain rfl := Option.some.inj H
  try simp only [c220, c220n, Bool.not_true, Bool.not_false]
  refine wp_cond_true (evT rfl rfl) ?_
  refine wsr fun _ hK459=>?_
  refine wpp fun k h=>?_;go_simp;apply h;clear h k
  refine wln (hK459 _ _ ?_)
  refine wp_ret ?_
  refine hQf _ _ _ ?_
  exact bpr (v := .bool false) ⟨rfl, hm211.out⟩
 rw [if_pos c220] at H
 have c220n : (t197 != t204) = false := by rw [bne, c220]; rfl
 obtain ⟨⟨t222, t223, t224⟩,A225,H⟩:=bnd H;try dsimp only at H
 obtain ⟨⟨t236, t237, t238⟩,A239,H⟩:=bnd H;try dsimp only at H
 try simp only [c220, c220n, Bool.not_true, Bool.not_false]
 refine wp_cond_false (evT rfl rfl) ?_
 refine wp_skip ?_
 refine hK202 _ _ ?_
 refine wsr fun _ hK221=>?_
 iterate 2 (refine wpp fun k h=>?_;go_simp;apply h;clear h k)
 have cl0 := h213.cell (o := 0) rfl
 have cl1 := h213.cell (o := 1) rfl
 have cl2 := h213.cell (o := 2) rfl
 refine wpp fun k h=>?_;go_simp;apply h;clear h k
 clear cl0 cl1 cl2
 have cl0 := h214.cell (o := 0) rfl
 have cl1 := h214.cell (o := 1) rfl
 refine wpp fun k h=>?_;go_simp;apply h;clear h k
 clear cl0 cl1
 refine stc (impl_InversePoint.calls K t11 t12 t13 t14 t15 t16 t17 t222 t223 t224 w207  A225.out) ?_
 intro w226 hu227
 simp only[Act.put,mkT_set]
 iterate 3 (refine wpp fun k h=>?_;go_simp;apply h;clear h k)
 refine stp (cs := [.int .i64 0, .int .i64 0]) (T := 25) ?_
 intro b228 w229 hu230 lbb228 ltb228 hb228
 simp only[Act.put,mkT_set]
 refine stw [.int .i64 t222, .int .i64 t223] hb228 rfl rfl rfl (evT rfl rfl) (evT rfl rfl) (by kernel_rfl) rfl rfl ?_
 intro w231 hs232 hb233
 refine wpp fun k h=>?_;go_simp;apply h;clear h k
 refine wln (hK221 _ _ ?_)
 refine wp_seq_k fun K234 hK234=>?_
 refine wsr fun _ hK235=>?_
 iterate 2 (refine wpp fun k h=>?_;go_simp;apply h;clear h k)
 have cl0 := (h213.up ((hu227.out.trans hu230.out).sto (Nat.le_trans (hu227.out.size) lbb228.out) hs232.out)).cell (o := 0) rfl
 have cl1 := (h213.up ((hu227.out.trans hu230.out).sto (Nat.le_trans (hu227.out.size) lbb228.out) hs232.out)).cell (o := 1) rfl
 have cl2 := (h213.up ((hu227.out.trans hu230.out).sto (Nat.le_trans (hu227.out.size) lbb228.out) hs232.out)).cell (o := 2) rfl
 refine wpp fun k h=>?_;go_simp;apply h;clear h k
 clear cl0 cl1 cl2
 have cl0 := (h214.up ((hu227.out.trans hu230.out).sto (Nat.le_trans (hu227.out.size) lbb228.out) hs232.out)).cell (o := 0) rfl
 have cl1 := (h214.up ((hu227.out.trans hu230.out).sto (Nat.le_trans (hu227.out.size) lbb228.out) hs232.out)).cell (o := 1) rfl
 refine wpp fun k h=>?_;go_simp;apply h;clear h k
 clear cl0 cl1
 refine stc (spec_InversePoint.calls K t11 t12 t13 t14 t15 t16 t17 t236 t237 t238 w231  A239.out) ?_
 intro w240 hu241
 simp only[Act.put,mkT_set]
 iterate 3 (refine wpp fun k h=>?_;go_simp;apply h;clear h k)
 refine stp (cs := [.int .i64 0, .int .i64 0]) (T := 25) ?_
 intro b242 w243 hu244 lbb242 ltb242 hb242
 simp only[Act.put,mkT_set]
 refine stw [.int .i64 t236, .int .i64 t237] hb242 rfl rfl rfl (evT rfl rfl) (evT rfl rfl) (by kernel_rfl) rfl rfl ?_
 intro w245 hs246 hb247
 refine wpp fun k h=>?_;go_simp;apply h;clear h k
 refine wln (hK235 _ _ ?_)
 refine wsr fun _ hK248=>?_
 iterate 4 (refine wpp fun k h=>?_;go_simp;apply h;clear h k)
 have hm250 := Aside0.mk (((((hu227.out.trans hu230.out).sto (Nat.le_trans (hu227.out.size) lbb228.out) hs232.out).trans hu241.out).trans hu244.out).sto (Nat.le_trans ((Nat.le_trans ((Nat.le_trans ((Nat.le_trans (hu227.out.size) hu230.out.size)) (Nat.le_of_eq hs232.out.size.symm))) hu241.out.size)) lbb242.out) hs246.out)
 have h251 := (hb233.up ((hu241.out.trans hu244.out).sto (Nat.le_trans (hu241.out.size) lbb242.out) hs246.out))
 by_cases c249 : (t224 == t238) = true
 rotate_left
 ·
  rw [if_neg c249] at H; replace c249 := Bool.eq_false_iff.mpr c249
  have c249n : (t224 != t238) = true := by rw [bne, c249]; rfl
  have c249p : ¬ t224 = t238 := fun e => by simp [e] at c249
  obtain rfl := Option.some.inj H
  try simp only [c249, c249n, Bool.not_true, Bool.not_false]
  refine step_no (wantT rfl rfl rfl rfl) ?_
  simp only[Act.put,mkT_set]
  refine step_no (wantT rfl rfl rfl rfl) ?_
  simp only[Act.put,mkT_set]
  refine step_no (wantT rfl rfl rfl rfl) ?_
  simp only[Act.put,mkT_set]
  refine wpp fun k h=>?_;go_simp;apply h;clear h k
  refine wln (hK248 _ _ ?_)
  refine wp_cond_true (evT rfl rfl) ?_
  refine wsr fun _ hK458=>?_
  refine wpp fun k h=>?_;go_simp;apply h;clear h k
  refine wln (hK458 _ _ ?_)
  refine wp_ret ?_
  refine hQf _ _ _ ?_
  exact bpr (v := .bool false) ⟨rfl, (hm211.out.trans hm250.out)⟩
 rw [if_pos c249] at H
 have c249n : (t224 != t238) = false := by rw [bne, c249]; rfl
 try simp only [c249, c249n, Bool.not_true, Bool.not_false]
 have cl0 := h251.cell (o := 0) rfl
 have cl1 := h251.cell (o := 1) rfl
 refine BigFrame.wpList_want (wantT rfl rfl rfl rfl) fun k h=>?_;go_simp;apply h;clear h k
 clear cl0 cl1
 have cl0 := hb247.cell (o := 0) rfl
 have cl1 := hb247.cell (o := 1) rfl
 refine BigFrame.wpList_want (wantT rfl rfl rfl rfl) fun k h=>?_;go_simp;apply h;clear h k
 clear cl0 cl1
 refine BigFrame.wpList_want (wantT rfl rfl rfl rfl) fun k h=>?_;go_simp;apply h;clear h k
 refine wpp fun k h=>?_;go_simp;apply h;clear h k
 refine wln (hK248 _ _ ?_)
 by_cases c252 : (t222 == t236 && t223 == t237) = true
 rotate_left
 ·
  rw [if_neg c252] at H; replace c252 := Bool.eq_false_iff.mpr c252
  have c252n : (!t222 == t236 || !t223 == t237) = true := by simp only [← Bool.not_and, c252, Bool.not_true, Bool.not_false]
  obtain rfl := Option.some.inj H
  try simp only [c252, c252n, Bool.not_true, Bool.not_false]
  refine wp_cond_true (evT rfl rfl) ?_
  refine wsr fun _ hK457=>?_
  refine wpp fun k h=>?_;go_simp;apply h;clear h k
  refine wln (hK457 _ _ ?_)
  refine wp_ret ?_
  refine hQf _ _ _ ?_
  exact bpr (v := .bool false) ⟨rfl, (hm211.out.trans hm250.out)⟩
 rw [if_pos c252] at H
 have c252n : (!t222 == t236 || !t223 == t237) = false := by simp only [← Bool.not_and, c252, Bool.not_true, Bool.not_false]
 obtain ⟨⟨t254, t255⟩,A256,H⟩:=bnd H;try dsimp only at H
 try simp only [c252, c252n, Bool.not_true, Bool.not_false]
 refine wp_cond_false (evT rfl rfl) ?_
 refine wp_skip ?_
 refine hK234 _ _ ?_
 refine wsr fun _ hK253=>?_
 refine wpp fun k h=>?_;go_simp;apply h;clear h k
 have cl0 := (h213.up hm250.out).cell (o := 0) rfl
 have cl1 := (h213.up hm250.out).cell (o := 1) rfl
 have cl2 := (h213.up hm250.out).cell (o := 2) rfl
 refine wpp fun k h=>?_;go_simp;apply h;clear h k
 clear cl0 cl1 cl2
 refine stc (impl_IsCircle.calls K t11 t13 t14 t15 t254 t255 w245  A256.out) ?_
 intro w257 hu258
 simp only[Act.put,mkT_set]
 iterate 5 (refine wpp fun k h=>?_;go_simp;apply h;clear h k)
 refine wln (hK253 _ _ ?_)
 refine wp_seq_joinT [3, 4, 5, 6, 7, 8, 11, 12, 13, 14, 15, 16, 17, 28, 29, 32, 33] (fun w_ => (laws_FnCircles.j0 K t11 t12 t13 t14 t15 t16 t17 t36 t37 t38 t39 t72 t73 t74 t75 t76 t77 t78 t79 t108 t109 t110 t111 t197 t198 t222 t223 t224) = some (r0) ∧ Up w257 w_) ?_ (fun K441 hK441 => ?_)
 ·
  intro v_ w259 hT_
  clear H
  obtain ⟨H, hu⟩ := hT_
  have hu260 := Aside0.mk hu
  clear hu
  rw [laws_FnCircles.j0] at H
  simp only [keepT,lookT_cons,lookT_nil,Nat.reduceEqDiff,↓reduceIte]
  refine wp_seq_joinT [3, 4, 5, 6, 7, 8, 11, 12, 13, 14, 15, 16, 17, 28, 29] (fun w_ => (laws_FnCircles.j1 K t11 t12 t13 t14 t15 t16 t17 t36 t37 t38 t39 t72 t73 t74 t75 t76 t77 t78 t79 t108 t109 t110 t111 t197 t198) = some (r0) ∧ Up w259 w_) ?_ (fun K410 hK410 => ?_)
  ·
   intro v_ w261 hT_
   clear H
   obtain ⟨H, hu⟩ := hT_
   have hu262 := Aside0.mk hu
   clear hu
   rw [laws_FnCircles.j1] at H
   simp only [keepT,lookT_cons,lookT_nil,Nat.reduceEqDiff,↓reduceIte]
   refine wp_seq_joinT [3, 4, 5, 6, 7, 8, 28, 29] (fun w_ => (laws_FnCircles.j2 K t11 t12 t13 t14 t15 t16 t17 t36 t37 t38 t39 t197 t198) = some (r0) ∧ Up w261 w_) ?_ (fun K323 hK323 => ?_)
   ·
    intro v_ w263 hT_
    clear H
    obtain ⟨H, hu⟩ := hT_
    have hu264 := Aside0.mk hu
    clear hu
    rw [laws_FnCircles.j2] at H
    simp only [keepT,lookT_cons,lookT_nil,Nat.reduceEqDiff,↓reduceIte]
    refine wp_seq_k fun K265 hK265=>?_
    refine wsr fun _ hK266=>?_
    iterate 2 (refine wpp fun k h=>?_;go_simp;apply h;clear h k)
    refine wln (hK266 _ _ ?_)
    have hm268 := Aside0.mk (((hu258.out.trans hu260.out).trans hu262.out).trans hu264.out)
    by_cases c267 : (t39 == 0) = true
    rotate_left
    ·
     rw [if_neg c267] at H; replace c267 := Bool.eq_false_iff.mpr c267
     have c267n : (t39 != 0) = true := by rw [bne, c267]; rfl
     have c267p : ¬ t39 = 0 := fun e => by simp [e] at c267
     obtain rfl := Option.some.inj H
     try simp only [c267, c267n, Bool.not_true, Bool.not_false]
     refine wp_cond_true (evT rfl rfl) ?_
     refine wsr fun _ hK322=>?_
     have cl0 := (h215.up (hm250.out.trans hm268.out)).cell (o := 0) rfl
     have cl1 := (h215.up (hm250.out.trans hm268.out)).cell (o := 1) rfl
     have cl2 := (h215.up (hm250.out.trans hm268.out)).cell (o := 2) rfl
     refine wpp fun k h=>?_;go_simp;apply h;clear h k
     clear cl0 cl1 cl2
     iterate 3 (refine wpp fun k h=>?_;go_simp;apply h;clear h k)
     refine wln (hK322 _ _ ?_)
     refine wp_ret ?_
     refine hQf _ _ _ ?_
     exact bpr (v := .bool (t36 == 0 && (t37 == 0 && t38 == 0))) ⟨rfl, ((hm211.out.trans hm250.out).trans hm268.out)⟩
    rw [if_pos c267] at H
    have c267n : (t39 != 0) = false := by rw [bne, c267]; rfl
    obtain ⟨⟨t270, t273⟩,A274,H⟩:=bnd H;try dsimp only at H
    obtain ⟨⟨t278, t281⟩,A282,H⟩:=bnd H;try dsimp only at H
    obtain ⟨⟨t286, t289⟩,A290,H⟩:=bnd H;try dsimp only at H
    try simp only [c267, c267n, Bool.not_true, Bool.not_false]
    refine wp_cond_false (evT rfl rfl) ?_
    refine wp_skip ?_
    refine hK265 _ _ ?_
    refine wsr fun _ hK269=>?_
    iterate 2 (refine wpp fun k h=>?_;go_simp;apply h;clear h k)
    have cl0 := (h213.up (hm250.out.trans hm268.out)).cell (o := 0) rfl
    have cl1 := (h213.up (hm250.out.trans hm268.out)).cell (o := 1) rfl
    have cl2 := (h213.up (hm250.out.trans hm268.out)).cell (o := 2) rfl
    refine wpp fun k h=>?_;go_simp;apply h;clear h k
    clear cl0 cl1 cl2
    have cl0 := (h215.up (hm250.out.trans hm268.out)).cell (o := 0) rfl
    have cl1 := (h215.up (hm250.out.trans hm268.out)).cell (o := 1) rfl
    have cl2 := (h215.up (hm250.out.trans hm268.out)).cell (o := 2) rfl
    refine wpp fun k h=>?_;go_simp;apply h;clear h k
    clear cl0 cl1 cl2
    refine step_call wn (by go_simp <;> rfl) (impl_MeetLine.calls K t11 t12 t13 t14 t15 t36 t37 t38 t270 t273 w263  A274.out) ?_
    rintro e w275 ⟨P271, q272, rfl, ht270, hu⟩
    have hu276 := Aside0.mk hu
    clear hu
    refine ⟨_, rfl, ?_⟩
    simp only[Act.put,mkT_set]
    iterate 5 (refine wpp fun k h=>?_;go_simp;apply h;clear h k)
    refine wln (hK269 _ _ ?_)
    refine wsr fun _ hK277=>?_
    iterate 2 (refine wpp fun k h=>?_;go_simp;apply h;clear h k)
    have cl0 := (h213.up ((hm250.out.trans hm268.out).trans hu276.out)).cell (o := 0) rfl
    have cl1 := (h213.up ((hm250.out.trans hm268.out).trans hu276.out)).cell (o := 1) rfl
    have cl2 := (h213.up ((hm250.out.trans hm268.out).trans hu276.out)).cell (o := 2) rfl
    refine wpp fun k h=>?_;go_simp;apply h;clear h k
    clear cl0 cl1 cl2
    have cl0 := (h214.up ((hm250.out.trans hm268.out).trans hu276.out)).cell (o := 0) rfl
    have cl1 := (h214.up ((hm250.out.trans hm268.out).trans hu276.out)).cell (o := 1) rfl
    refine wpp fun k h=>?_;go_simp;apply h;clear h k
    clear cl0 cl1
    refine step_call wn (by go_simp <;> rfl) (impl_TangentsFrom.calls K t11 t12 t13 t14 t15 t16 t17 t278 t281 w275  A282.out) ?_
    rintro e w283 ⟨P279, q280, rfl, ht278, hu⟩
    have hu284 := Aside0.mk hu
    clear hu
    refine ⟨_, rfl, ?_⟩
    simp only[Act.put,mkT_set]
    iterate 5 (refine wpp fun k h=>?_;go_simp;apply h;clear h k)
    refine wln (hK277 _ _ ?_)
    refine wsr fun _ hK285=>?_
    iterate 2 (refine wpp fun k h=>?_;go_simp;apply h;clear h k)
    have cl0 := (h213.up (((hm250.out.trans hm268.out).trans hu276.out).trans hu284.out)).cell (o := 0) rfl
    have cl1 := (h213.up (((hm250.out.trans hm268.out).trans hu276.out).trans hu284.out)).cell (o := 1) rfl
    have cl2 := (h213.up (((hm250.out.trans hm268.out).trans hu276.out).trans hu284.out)).cell (o := 2) rfl
    refine wpp fun k h=>?_;go_simp;apply h;clear h k
    clear cl0 cl1 cl2
    have cl0 := (h214.up (((hm250.out.trans hm268.out).trans hu276.out).trans hu284.out)).cell (o := 0) rfl
    have cl1 := (h214.up (((hm250.out.trans hm268.out).trans hu276.out).trans hu284.out)).cell (o := 1) rfl
    refine wpp fun k h=>?_;go_simp;apply h;clear h k
    clear cl0 cl1
    refine step_call wn (by go_simp <;> rfl) (spec_TangentsFrom.calls K t11 t12 t13 t14 t15 t16 t17 t286 t289 w283  A290.out) ?_
    rintro e w291 ⟨P287, q288, rfl, ht286, hu⟩
    have hu292 := Aside0.mk hu
    clear hu
    refine ⟨_, rfl, ?_⟩
    simp only[Act.put,mkT_set]
    iterate 5 (refine wpp fun k h=>?_;go_simp;apply h;clear h k)
    refine wln (hK285 _ _ ?_)
    refine wp_seq_k fun K293 hK293=>?_
    refine wsr fun _ hK294=>?_
    iterate 4 (refine wpp fun k h=>?_;go_simp;apply h;clear h k)
    have hm296 := Aside0.mk ((hu276.out.trans hu284.out).trans hu292.out)
    by_cases c295 : (t281 == t289) = true
    rotate_left
    ·
     rw [if_neg c295] at H; replace c295 := Bool.eq_false_iff.mpr c295
     have c295n : (t281 != t289) = true := by rw [bne, c295]; rfl
     have c295p : ¬ t281 = t289 := fun e => by simp [e] at c295
     obtain rfl := Option.some.inj H
     try simp only [c295, c295n, Bool.not_true, Bool.not_false]
     refine step_no (wantT rfl rfl rfl rfl) ?_
     simp only[Act.put,mkT_set]
     refine step_no (wantT rfl rfl rfl rfl) ?_
     simp only[Act.put,mkT_set]
     refine step_no (wantT rfl rfl rfl rfl) ?_
     simp only[Act.put,mkT_set]
     refine step_no (wantT rfl rfl rfl rfl) ?_
     simp only[Act.put,mkT_set]
     iterate 2 (refine wpp fun k h=>?_;go_simp;apply h;clear h k)
     refine step_no (wantT rfl rfl rfl rfl) ?_
     simp only[Act.put,mkT_set]
     refine step_no (wantT rfl rfl rfl rfl) ?_
     simp only[Act.put,mkT_set]
     iterate 2 (refine wpp fun k h=>?_;go_simp;apply h;clear h k)
     refine step_no (wantT rfl rfl rfl rfl) ?_
     simp only[Act.put,mkT_set]
     refine step_no (wantT rfl rfl rfl rfl) ?_
     simp only[Act.put,mkT_set]
     refine step_no (wantT rfl rfl rfl rfl) ?_
     simp only[Act.put,mkT_set]
     refine wpp fun k h=>?_;go_simp;apply h;clear h k
     refine wln (hK294 _ _ ?_)
     refine wp_cond_true (evT rfl rfl) ?_
     refine wsr fun _ hK321=>?_
     refine wpp fun k h=>?_;go_simp;apply h;clear h k
     refine wln (hK321 _ _ ?_)
     refine wp_ret ?_
     refine hQf _ _ _ ?_
     exact bpr (v := .bool false) ⟨rfl, (((hm211.out.trans hm250.out).trans hm268.out).trans hm296.out)⟩
    rw [if_pos c295] at H
    have c295n : (t281 != t289) = false := by rw [bne, c295]; rfl
    obtain ⟨t298,A299,H⟩:=bnd H;try dsimp only at H
    try simp only [c295, c295n, Bool.not_true, Bool.not_false]
    refine BigFrame.wpList_want (wantT rfl rfl rfl rfl) fun k h=>?_;go_simp;apply h;clear h k
    refine BigFrame.wpList_want (wantT rfl rfl rfl rfl) fun k h=>?_;go_simp;apply h;clear h k
    refine step_call (wantT rfl rfl rfl rfl) (by go_simp <;> rfl) (laws_lines9.calls K P279 q280 t278 P287 q288 t286 t298 w291 ((ht278.up hu292.out).rd) ht286.rd A299.out) ?_
    rintro e w300 ⟨rfl, hu⟩
    have hu301 := Aside0.mk hu
    clear hu
    refine ⟨_, rfl, ?_⟩
    simp only[Act.put,mkT_set]
    refine BigFrame.wpList_want (wantT rfl rfl rfl rfl) fun k h=>?_;go_simp;apply h;clear h k
    iterate 2 (refine wpp fun k h=>?_;go_simp;apply h;clear h k)
    have h303 := (h213.up (((hm250.out.trans hm268.out).trans hm296.out).trans hu301.out))
    have h304 := (h214.up (((hm250.out.trans hm268.out).trans hm296.out).trans hu301.out))
    by_cases c302 : (t298) = true
    rotate_left
    ·
     rw [if_neg c302] at H; replace c302 := Bool.eq_false_iff.mpr c302
     have HX := H;clear H;subst c302;have H := HX;clear HX
     obtain rfl := Option.some.inj H
     refine step_no (wantT rfl rfl rfl rfl) ?_
     simp only[Act.put,mkT_set]
     refine step_no (wantT rfl rfl rfl rfl) ?_
     simp only[Act.put,mkT_set]
     iterate 2 (refine wpp fun k h=>?_;go_simp;apply h;clear h k)
     refine step_no (wantT rfl rfl rfl rfl) ?_
     simp only[Act.put,mkT_set]
     refine step_no (wantT rfl rfl rfl rfl) ?_
     simp only[Act.put,mkT_set]
     refine step_no (wantT rfl rfl rfl rfl) ?_
     simp only[Act.put,mkT_set]
     refine wpp fun k h=>?_;go_simp;apply h;clear h k
     refine wln (hK294 _ _ ?_)
     refine wp_cond_true (evT rfl rfl) ?_
     refine wsr fun _ hK320=>?_
     refine wpp fun k h=>?_;go_simp;apply h;clear h k
     refine wln (hK320 _ _ ?_)
     refine wp_ret ?_
     refine hQf _ _ _ ?_
     exact bpr (v := .bool false) ⟨rfl, ((((hm211.out.trans hm250.out).trans hm268.out).trans hm296.out).trans hu301.out)⟩
    rw [if_pos c302] at H
    have HX := H;clear H;subst c302;have H := HX;clear HX
    refine BigFrame.wpList_want (wantT rfl rfl rfl rfl) fun k h=>?_;go_simp;apply h;clear h k
    refine BigFrame.wpList_want (wantT rfl rfl rfl rfl) fun k h=>?_;go_simp;apply h;clear h k
    iterate 2 (refine wpp fun k h=>?_;go_simp;apply h;clear h k)
    by_cases c305 : (t281 == 0) = true
    rotate_left
    ·
     rw [if_neg c305] at H; replace c305 := Bool.eq_false_iff.mpr c305
     have c305n : (t281 != 0) = true := by rw [bne, c305]; rfl
     have c305p : ¬ t281 = 0 := fun e => by simp [e] at c305
     obtain rfl := Option.some.inj H
     try simp only [c305, c305n, Bool.not_true, Bool.not_false]
     refine step_no (wantT rfl rfl rfl rfl) ?_
     simp only[Act.put,mkT_set]
     refine step_no (wantT rfl rfl rfl rfl) ?_
     simp only[Act.put,mkT_set]
     refine step_no (wantT rfl rfl rfl rfl) ?_
     simp only[Act.put,mkT_set]
     refine wpp fun k h=>?_;go_simp;apply h;clear h k
     refine wln (hK294 _ _ ?_)
     refine wp_cond_true (evT rfl rfl) ?_
     refine wsr fun _ hK319=>?_
     refine wpp fun k h=>?_;go_simp;apply h;clear h k
     refine wln (hK319 _ _ ?_)
     refine wp_ret ?_
     refine hQf _ _ _ ?_
     exact bpr (v := .bool false) ⟨rfl, ((((hm211.out.trans hm250.out).trans hm268.out).trans hm296.out).trans hu301.out)⟩
    rw [if_pos c305] at H
    have c305n : (t281 != 0) = false := by rw [bne, c305]; rfl
    try simp only [c305, c305n, Bool.not_true, Bool.not_false]
    refine BigFrame.wpList_want (wantT rfl rfl rfl rfl) fun k h=>?_;go_simp;apply h;clear h k
    refine BigFrame.wpList_want (wantT rfl rfl rfl rfl) fun k h=>?_;go_simp;apply h;clear h k
    refine BigFrame.wpList_want (wantT rfl rfl rfl rfl) fun k h=>?_;go_simp;apply h;clear h k
    refine wpp fun k h=>?_;go_simp;apply h;clear h k
    refine wln (hK294 _ _ ?_)
    by_cases c306 : ((t278.length : Int) == 0) = true
    ·
     rw [if_pos c306] at H
     have c306n : ((t278.length : Int) != 0) = false := by rw [bne, c306]; rfl
     obtain rfl := Option.some.inj H
     try simp only [c306, c306n, Bool.not_true, Bool.not_false]
     refine wp_cond_true (evT rfl rfl) ?_
     refine wsr fun _ hK307=>?_
     refine wpp fun k h=>?_;go_simp;apply h;clear h k
     refine wln (hK307 _ _ ?_)
     refine wp_ret ?_
     refine hQf _ _ _ ?_
     exact bpr (v := .bool false) ⟨rfl, ((((hm211.out.trans hm250.out).trans hm268.out).trans hm296.out).trans hu301.out)⟩
    rw [if_neg c306] at H; replace c306 := Bool.eq_false_iff.mpr c306
    have c306n : ((t278.length : Int) != 0) = true := by rw [bne, c306]; rfl
    have c306p : ¬ (t278.length : Int) = 0 := fun e => by simp [e] at c306
    try simp only [c306, c306n, Bool.not_true, Bool.not_false]
    refine wp_cond_false (evT rfl rfl) ?_
    refine wp_skip ?_
    refine hK293 _ _ ?_
    refine wsr fun _ hK308=>?_
    iterate 3 (refine wpp fun k h=>?_;go_simp;apply h;clear h k)
    by_cases c309 : (t198 == 0) = true
    rotate_left
    ·
     rw [if_neg c309] at H; replace c309 := Bool.eq_false_iff.mpr c309
     have c309n : (t198 != 0) = true := by rw [bne, c309]; rfl
     have c309p : ¬ t198 = 0 := fun e => by simp [e] at c309
     obtain rfl := Option.some.inj H
     try simp only [c309, c309n, Bool.not_true, Bool.not_false]
     refine step_no (wantT rfl rfl rfl rfl) ?_
     simp only[Act.put,mkT_set]
     refine step_no (wantT rfl rfl rfl rfl) ?_
     simp only[Act.put,mkT_set]
     iterate 2 (refine wpp fun k h=>?_;go_simp;apply h;clear h k)
     refine step_no (wantT rfl rfl rfl rfl) ?_
     simp only[Act.put,mkT_set]
     refine step_no (wantT rfl rfl rfl rfl) ?_
     simp only[Act.put,mkT_set]
     iterate 2 (refine wpp fun k h=>?_;go_simp;apply h;clear h k)
     refine step_no (wantT rfl rfl rfl rfl) ?_
     simp only[Act.put,mkT_set]
     refine step_no (wantT rfl rfl rfl rfl) ?_
     simp only[Act.put,mkT_set]
     refine step_no (wantT rfl rfl rfl rfl) ?_
     simp only[Act.put,mkT_set]
     iterate 2 (refine wpp fun k h=>?_;go_simp;apply h;clear h k)
     refine step_no (wantT rfl rfl rfl rfl) ?_
     simp only[Act.put,mkT_set]
     refine step_no (wantT rfl rfl rfl rfl) ?_
     simp only[Act.put,mkT_set]
     refine step_no (wantT rfl rfl rfl rfl) ?_
     simp only[Act.put,mkT_set]
     refine step_no (wantT rfl rfl rfl rfl) ?_
     simp only[Act.put,mkT_set]
     refine step_no (wantT rfl rfl rfl rfl) ?_
     simp only[Act.put,mkT_set]
     refine step_no (wantT rfl rfl rfl rfl) ?_
     simp only[Act.put,mkT_set]
     refine step_no (wantT rfl rfl rfl rfl) ?_
     simp only[Act.put,mkT_set]
     refine step_no (wantT rfl rfl rfl rfl) ?_
     simp only[Act.put,mkT_set]
     iterate 2 (refine wpp fun k h=>?_;go_simp;apply h;clear h k)
     refine wln (hK308 _ _ ?_)
     refine wp_ret ?_
     refine hQf _ _ _ ?_
     exact bpr (v := .bool false) ⟨rfl, ((((hm211.out.trans hm250.out).trans hm268.out).trans hm296.out).trans hu301.out)⟩
    rw [if_pos c309] at H
    have c309n : (t198 != 0) = false := by rw [bne, c309]; rfl
    try simp only [c309, c309n, Bool.not_true, Bool.not_false]
    refine BigFrame.wpList_want (wantT rfl rfl rfl rfl) fun k h=>?_;go_simp;apply h;clear h k
    refine BigFrame.wpList_want (wantT rfl rfl rfl rfl) fun k h=>?_;go_simp;apply h;clear h k
    iterate 2 (refine wpp fun k h=>?_;go_simp;apply h;clear h k)
    by_cases c310 : (t197 == 0) = true
    rotate_left
    ·
     rw [if_neg c310] at H; replace c310 := Bool.eq_false_iff.mpr c310
     have c310n : (t197 != 0) = true := by rw [bne, c310]; rfl
     have c310p : ¬ t197 = 0 := fun e => by simp [e] at c310
     obtain rfl := Option.some.inj H
     try simp only [c310, c310n, Bool.not_true, Bool.not_false]
     refine step_no (wantT rfl rfl rfl rfl) ?_
     simp only[Act.put,mkT_set]
     refine step_no (wantT rfl rfl rfl rfl) ?_
     simp only[Act.put,mkT_set]
     iterate 2 (refine wpp fun k h=>?_;go_simp;apply h;clear h k)
     refine step_no (wantT rfl rfl rfl rfl) ?_
     simp only[Act.put,mkT_set]
     refine step_no (wantT rfl rfl rfl rfl) ?_
     simp only[Act.put,mkT_set]
     refine step_no (wantT rfl rfl rfl rfl) ?_
     simp only[Act.put,mkT_set]
     iterate 2 (refine wpp fun k h=>?_;go_simp;apply h;clear h k)
     refine step_no (wantT rfl rfl rfl rfl) ?_
     simp only[Act.put,mkT_set]
     refine step_no (wantT rfl rfl rfl rfl) ?_
     simp only[Act.put,mkT_set]
     refine step_no (wantT rfl rfl rfl rfl) ?_
     simp only[Act.put,mkT_set]
     refine step_no (wantT rfl rfl rfl rfl) ?_
     simp only[Act.put,mkT_set]
     refine step_no (wantT rfl rfl rfl rfl) ?_
     simp only[Act.put,mkT_set]
     refine step_no (wantT rfl rfl rfl rfl) ?_
     simp only[Act.put,mkT_set]
     refine step_no (wantT rfl rfl rfl rfl) ?_
     simp only[Act.put,mkT_set]
     refine step_no (wantT rfl rfl rfl rfl) ?_
     simp only[Act.put,mkT_set]
     iterate 2 (refine wpp fun k h=>?_;go_simp;apply h;clear h k)
     refine wln (hK308 _ _ ?_)
     refine wp_ret ?_
     refine hQf _ _ _ ?_
     exact bpr (v := .bool false) ⟨rfl, ((((hm211.out.trans hm250.out).trans hm268.out).trans hm296.out).trans hu301.out)⟩
    rw [if_pos c310] at H
    have c310n : (t197 != 0) = false := by rw [bne, c310]; rfl
    try simp only [c310, c310n, Bool.not_true, Bool.not_false]
    refine BigFrame.wpList_want (wantT rfl rfl rfl rfl) fun k h=>?_;go_simp;apply h;clear h k
    refine BigFrame.wpList_want (wantT rfl rfl rfl rfl) fun k h=>?_;go_simp;apply h;clear h k
    iterate 2 (refine wpp fun k h=>?_;go_simp;apply h;clear h k)
    by_cases c311 : (t273 == 0) = true
    rotate_left
    ·
     rw [if_neg c311] at H; replace c311 := Bool.eq_false_iff.mpr c311
     have c311n : (t273 != 0) = true := by rw [bne, c311]; rfl
     have c311p : ¬ t273 = 0 := fun e => by simp [e] at c311
     obtain rfl := Option.some.inj H
     try simp only [c311, c311n, Bool.not_true, Bool.not_false]
     refine step_no (wantT rfl rfl rfl rfl) ?_
     simp only[Act.put,mkT_set]
     refine step_no (wantT rfl rfl rfl rfl) ?_
     simp only[Act.put,mkT_set]
     refine step_no (wantT rfl rfl rfl rfl) ?_
     simp only[Act.put,mkT_set]
     iterate 2 (refine wpp fun k h=>?_;go_simp;apply h;clear h k)
     refine step_no (wantT rfl rfl rfl rfl) ?_
     simp only[Act.put,mkT_set]
     refine step_no (wantT rfl rfl rfl rfl) ?_
     simp only[Act.put,mkT_set]
     refine step_no (wantT rfl rfl rfl rfl) ?_
     simp only[Act.put,mkT_set]
     refine step_no (wantT rfl rfl rfl rfl) ?_
     simp only[Act.put,mkT_set]
     refine step_no (wantT rfl rfl rfl rfl) ?_
     simp only[Act.put,mkT_set]
     refine step_no (wantT rfl rfl rfl rfl) ?_
     simp only[Act.put,mkT_set]
     refine step_no (wantT rfl rfl rfl rfl) ?_
     simp only[Act.put,mkT_set]
     refine step_no (wantT rfl rfl rfl rfl) ?_
     simp only[Act.put,mkT_set]
     iterate 2 (refine wpp fun k h=>?_;go_simp;apply h;clear h k)
     refine wln (hK308 _ _ ?_)
     refine wp_ret ?_
     refine hQf _ _ _ ?_
     exact bpr (v := .bool false) ⟨rfl, ((((hm211.out.trans hm250.out).trans hm268.out).trans hm296.out).trans hu301.out)⟩
    rw [if_pos c311] at H
    have c311n : (t273 != 0) = false := by rw [bne, c311]; rfl
    obtain ⟨t312,A313,H⟩:=bnd H;try dsimp only at H
    try simp only [c311, c311n, Bool.not_true, Bool.not_false]
    refine BigFrame.wpList_want (wantT rfl rfl rfl rfl) fun k h=>?_;go_simp;apply h;clear h k
    have cl0 := h304.cell (o := 0) rfl
    have cl1 := h304.cell (o := 1) rfl
    refine BigFrame.wpList_want (wantT rfl rfl rfl rfl) fun k h=>?_;go_simp;apply h;clear h k
    clear cl0 cl1
    refine step_call (wantT rfl rfl rfl rfl) (by go_simp <;> rfl) (laws_hasPoint9.calls K P271 q272 t270 t16 t17 t312 w300 ((ht270.up ((hu284.out.trans hu292.out).trans hu301.out)).rd) A313.out) ?_
    rintro e w314 ⟨rfl, hu⟩
    have hu315 := Aside0.mk hu
    clear hu
    refine ⟨_, rfl, ?_⟩
    simp only[Act.put,mkT_set]
    iterate 2 (refine wpp fun k h=>?_;go_simp;apply h;clear h k)
    have hm317 := Aside0.mk (((((hm211.out.trans hm250.out).trans hm268.out).trans hm296.out).trans hu301.out).trans hu315.out)
    by_cases c316 : (t312) = true
    rotate_left
    ·
     rw [if_neg c316] at H; replace c316 := Bool.eq_false_iff.mpr c316
     have HX := H;clear H;subst c316;have H := HX;clear HX
     obtain rfl := Option.some.inj H
     refine step_no (wantT rfl rfl rfl rfl) ?_
     simp only[Act.put,mkT_set]
     refine step_no (wantT rfl rfl rfl rfl) ?_
     simp only[Act.put,mkT_set]
     refine step_no (wantT rfl rfl rfl rfl) ?_
     simp only[Act.put,mkT_set]
     refine step_no (wantT rfl rfl rfl rfl) ?_
     simp only[Act.put,mkT_set]
     refine step_no (wantT rfl rfl rfl rfl) ?_
     simp only[Act.put,mkT_set]
     refine step_no (wantT rfl rfl rfl rfl) ?_
     simp only[Act.put,mkT_set]
     refine step_no (wantT rfl rfl rfl rfl) ?_
     simp only[Act.put,mkT_set]
     refine step_no (wantT rfl rfl rfl rfl) ?_
     simp only[Act.put,mkT_set]
     iterate 2 (refine wpp fun k h=>?_;go_simp;apply h;clear h k)
     refine wln (hK308 _ _ ?_)
     refine wp_ret ?_
     refine hQf _ _ _ ?_
     exact bpr (v := .bool false) ⟨rfl, hm317.out⟩
    rw [if_pos c316] at H
    have HX := H;clear H;subst c316;have H := HX;clear HX
    refine BigFrame.wpList_want (wantT rfl rfl rfl rfl) fun k h=>?_;go_simp;apply h;clear h k
    have cl0 := (h303.up hu315.out).cell (o := 2) rfl
    refine BigFrame.wpList_want (wantT rfl rfl rfl rfl) fun k h=>?_;go_simp;apply h;clear h k
    clear cl0
    refine BigFrame.wpList_want (wantT rfl rfl rfl rfl) fun k h=>?_;go_simp;apply h;clear h k
    refine BigFrame.wpList_want (wantT rfl rfl rfl rfl) fun k h=>?_;go_simp;apply h;clear h k
    by_cases c318 : (t15 == 0) = true
    rotate_left
    ·
     rw [if_neg c318] at H; replace c318 := Bool.eq_false_iff.mpr c318
     have c318n : (t15 != 0) = true := by rw [bne, c318]; rfl
     have c318p : ¬ t15 = 0 := fun e => by simp [e] at c318
     obtain rfl := Option.some.inj H
     try simp only [c318, c318n, Bool.not_true, Bool.not_false]
     refine BigFrame.wpList_want (wantT rfl rfl rfl rfl) fun k h=>?_;go_simp;apply h;clear h k
     refine BigFrame.wpList_want (wantT rfl rfl rfl rfl) fun k h=>?_;go_simp;apply h;clear h k
     refine BigFrame.wpList_want (wantT rfl rfl rfl rfl) fun k h=>?_;go_simp;apply h;clear h k
     refine BigFrame.wpList_want (wantT rfl rfl rfl rfl) fun k h=>?_;go_simp;apply h;clear h k
     iterate 2 (refine wpp fun k h=>?_;go_simp;apply h;clear h k)
     refine wln (hK308 _ _ ?_)
     refine wp_ret ?_
     refine hQf _ _ _ ?_
     exact bpr (v := .bool ((t270.length : Int) == 1)) ⟨rfl, hm317.out⟩
    rw [if_pos c318] at H
    have c318n : (t15 != 0) = false := by rw [bne, c318]; rfl
    obtain rfl := Option.some.inj H
    try simp only [c318, c318n, Bool.not_true, Bool.not_false]
    refine step_no (wantT rfl rfl rfl rfl) ?_
    simp only[Act.put,mkT_set]
    refine step_no (wantT rfl rfl rfl rfl) ?_
    simp only[Act.put,mkT_set]
    refine step_no (wantT rfl rfl rfl rfl) ?_
    simp only[Act.put,mkT_set]
    refine BigFrame.wpList_want (wantT rfl rfl rfl rfl) fun k h=>?_;go_simp;apply h;clear h k
    iterate 2 (refine wpp fun k h=>?_;go_simp;apply h;clear h k)
    refine wln (hK308 _ _ ?_)
    refine wp_ret ?_
    refine hQf _ _ _ ?_
    exact bpr (v := .bool true) ⟨rfl, hm317.out⟩
   refine wsr fun _ hK324=>?_
   iterate 2 (refine wpp fun k h=>?_;go_simp;apply h;clear h k)
   refine wln (hK324 _ _ ?_)
   have hm326 := Aside0.mk ((hu258.out.trans hu260.out).trans hu262.out)
   by_cases c325 : (t111 == 0) = true
   rotate_left
   ·
    rw [if_neg c325] at H; replace c325 := Bool.eq_false_iff.mpr c325
    have c325n : (t111 != 0) = true := by rw [bne, c325]; rfl
    have c325p : ¬ t111 = 0 := fun e => by simp [e] at c325
    try simp only [c325, c325n, Bool.not_true, Bool.not_false]
    refine wp_cond_false (evT rfl rfl) ?_
    refine wp_skip ?_
    exact hK323 _ _ _ (by kernel_rfl) ⟨H, (Up.refl _)⟩
   rw [if_pos c325] at H
   have c325n : (t111 != 0) = false := by rw [bne, c325]; rfl
   obtain ⟨⟨t343, t344⟩,A345,H⟩:=bnd H;try dsimp only at H
   try simp only [c325, c325n, Bool.not_true, Bool.not_false]
   refine wp_cond_true (evT rfl rfl) ?_
   refine wsr fun _ hK327=>?_
   have cl0 := (h216.up (hm250.out.trans hm326.out)).cell (o := 0) rfl
   have cl1 := (h216.up (hm250.out.trans hm326.out)).cell (o := 1) rfl
   refine wpp fun k h=>?_;go_simp;apply h;clear h k
   clear cl0 cl1
   have cl0 := (h217.up (hm250.out.trans hm326.out)).cell (o := 0) rfl
   have cl1 := (h217.up (hm250.out.trans hm326.out)).cell (o := 1) rfl
   refine wpp fun k h=>?_;go_simp;apply h;clear h k
   clear cl0 cl1
   have cl0 := (h218.up (hm250.out.trans hm326.out)).cell (o := 0) rfl
   have cl1 := (h218.up (hm250.out.trans hm326.out)).cell (o := 1) rfl
   refine wpp fun k h=>?_;go_simp;apply h;clear h k
   clear cl0 cl1
   refine step_new (cs := [.int .i64 t74, .int .i64 t75, .int .i64 t76, .int .i64 t77, .int .i64 t78, .int .i64 t79]) (T := 25) (f := fun b => .slice (some ⟨b, 0, none⟩) 3 3) rfl (by go_simp <;> rfl) ?_
   intro b328 w329 hu lb hb328
   simp only[Act.put,mkT_set]
   clear lb
   have hu330 := Aside0.mk hu
   clear hu
   iterate 2 (refine wpp fun k h=>?_;go_simp;apply h;clear h k)
   refine wln (hK327 _ _ ?_)
   refine wp_block ?_
   refine wp_loop_rounds 40 ?_
   refine rounds_k (fun K331 hK331 => ?_)
   refine wsr fun _ hK332=>?_
   refine wpp fun k h=>?_;go_simp;apply h;clear h k
   refine wln (hK332 _ _ ?_)
   refine wp_seq_k fun K333 hK333=>?_
   refine wp_cond_true (evT rfl rfl) ?_
   refine wp_skip ?_
   refine hK333 _ _ ?_
   refine wp_seq_k fun K334 hK334=>?_
   refine wp_block ?_
   refine wsr fun _ hK335=>?_
   refine wpp fun k h=>?_;go_simp;apply h;clear h k
   have cl0 := hb328.cell (o := 0) rfl
   have cl1 := hb328.cell (o := 1) rfl
   refine wpp fun k h=>?_;go_simp;apply h;clear h k
   clear cl0 cl1
   refine stp (cs := [.int .i64 0, .int .i64 0]) (T := 25) ?_
   intro b336 w337 hu338 lbb336 ltb336 hb336
   simp only[Act.put,mkT_set]
   refine stw [.int .i64 t74, .int .i64 t75] hb336 rfl rfl rfl (evT rfl rfl) (evT rfl rfl) (by kernel_rfl) rfl rfl ?_
   intro w339 hs340 hb341
   refine wln (hK335 _ _ ?_)
   refine wsr fun _ hK342=>?_
   iterate 2 (refine wpp fun k h=>?_;go_simp;apply h;clear h k)
   have cl0 := (h219.up ((((hm250.out.trans hm326.out).trans hu330.out).trans hu338.out).sto (Nat.le_trans ((Nat.le_trans ((Nat.le_trans (hm250.out.size) hm326.out.size)) hu330.out.size)) lbb336.out) hs340.out)).cell (o := 0) rfl
   have cl1 := (h219.up ((((hm250.out.trans hm326.out).trans hu330.out).trans hu338.out).sto (Nat.le_trans ((Nat.le_trans ((Nat.le_trans (hm250.out.size) hm326.out.size)) hu330.out.size)) lbb336.out) hs340.out)).cell (o := 1) rfl
   have cl2 := (h219.up ((((hm250.out.trans hm326.out).trans hu330.out).trans hu338.out).sto (Nat.le_trans ((Nat.le_trans ((Nat.le_trans (hm250.out.size) hm326.out.size)) hu330.out.size)) lbb336.out) hs340.out)).cell (o := 2) rfl
   refine wpp fun k h=>?_;go_simp;apply h;clear h k
   clear cl0 cl1 cl2
   have cl0 := hb341.cell (o := 0) rfl
   have cl1 := hb341.cell (o := 1) rfl
   refine wpp fun k h=>?_;go_simp;apply h;clear h k
   clear cl0 cl1
   refine stc (impl_PowerOf.calls K t72 t73 t108 t109 t110 t74 t75 t343 t344 w339  A345.out) ?_
   intro w346 hu347
   simp only[Act.put,mkT_set]
   iterate 5 (refine wpp fun k h=>?_;go_simp;apply h;clear h k)
   refine wln (hK342 _ _ ?_)
   refine wsr fun _ hK348=>?_
   iterate 3 (refine wpp fun k h=>?_;go_simp;apply h;clear h k)
   have hm350 := Aside0.mk (((hu330.out.trans hu338.out).sto (Nat.le_trans (hu330.out.size) lbb336.out) hs340.out).trans hu347.out)
   have h352 := (hb328.up ((hu338.out.sto (Nat.le_trans (Nat.le_refl _) lbb336.out) hs340.out).trans hu347.out))
   by_cases c349 : (t344 == 0) = true
   rotate_left
   ·
    rw [if_neg c349] at H; replace c349 := Bool.eq_false_iff.mpr c349
    have c349n : (t344 != 0) = true := by rw [bne, c349]; rfl
    have c349p : ¬ t344 = 0 := fun e => by simp [e] at c349
    obtain rfl := Option.some.inj H
    try simp only [c349, c349n, Bool.not_true, Bool.not_false]
    refine step_no (wantT rfl rfl rfl rfl) ?_
    simp only[Act.put,mkT_set]
    refine step_no (wantT rfl rfl rfl rfl) ?_
    simp only[Act.put,mkT_set]
    refine wpp fun k h=>?_;go_simp;apply h;clear h k
    refine wln (hK348 _ _ ?_)
    refine wp_cond_true (evT rfl rfl) ?_
    refine wsr fun _ hK409=>?_
    refine wpp fun k h=>?_;go_simp;apply h;clear h k
    refine wln (hK409 _ _ ?_)
    refine wp_ret ?_
    refine hQf _ _ _ ?_
    exact bpr (v := .bool false) ⟨rfl, (((hm211.out.trans hm250.out).trans hm326.out).trans hm350.out)⟩
   rw [if_pos c349] at H
   have c349n : (t344 != 0) = false := by rw [bne, c349]; rfl
   try simp only [c349, c349n, Bool.not_true, Bool.not_false]
   refine BigFrame.wpList_want (wantT rfl rfl rfl rfl) fun k h=>?_;go_simp;apply h;clear h k
   refine BigFrame.wpList_want (wantT rfl rfl rfl rfl) fun k h=>?_;go_simp;apply h;clear h k
   refine wpp fun k h=>?_;go_simp;apply h;clear h k
   refine wln (hK348 _ _ ?_)
   by_cases c353 : (t343 == 0) = true
   rotate_left
   ·
    rw [if_neg c353] at H; replace c353 := Bool.eq_false_iff.mpr c353
    have c353n : (t343 != 0) = true := by rw [bne, c353]; rfl
    have c353p : ¬ t343 = 0 := fun e => by simp [e] at c353
    obtain rfl := Option.some.inj H
    try simp only [c353, c353n, Bool.not_true, Bool.not_false]
    refine wp_cond_true (evT rfl rfl) ?_
    refine wsr fun _ hK408=>?_
    refine wpp fun k h=>?_;go_simp;apply h;clear h k
    refine wln (hK408 _ _ ?_)
    refine wp_ret ?_
    refine hQf _ _ _ ?_
    exact bpr (v := .bool false) ⟨rfl, (((hm211.out.trans hm250.out).trans hm326.out).trans hm350.out)⟩
   rw [if_pos c353] at H
   have c353n : (t343 != 0) = false := by rw [bne, c353]; rfl
   obtain ⟨⟨t366, t367⟩,A368,H⟩:=bnd H;try dsimp only at H
   try simp only [c353, c353n, Bool.not_true, Bool.not_false]
   refine wp_cond_false (evT rfl rfl) ?_
   refine wp_skip ?_
   refine hK334 _ _ ?_
   refine wp_region_lit ?_
   refine wpp fun k h=>?_;go_simp;apply h;clear h k
   try simp only [show wrap64 1 = 1 from wlit rfl]
   refine wpp fun k h=>?_;go_simp;apply h;clear h k
   refine wln (hK331 _ _ ?_)
   refine rounds_k (fun K354 hK354 => ?_)
   refine wsr fun _ hK355=>?_
   refine wpp fun k h=>?_;go_simp;apply h;clear h k
   refine wln (hK355 _ _ ?_)
   refine wp_seq_k fun K356 hK356=>?_
   refine wp_cond_true (evT rfl rfl) ?_
   refine wp_skip ?_
   refine hK356 _ _ ?_
   refine wp_seq_k fun K357 hK357=>?_
   refine wp_block ?_
   refine wsr fun _ hK358=>?_
   refine wpp fun k h=>?_;go_simp;apply h;clear h k
   have cl0 := h352.cell (o := 2) rfl
   have cl1 := h352.cell (o := 3) rfl
   refine wpp fun k h=>?_;go_simp;apply h;clear h k
   clear cl0 cl1
   refine stp (cs := [.int .i64 0, .int .i64 0]) (T := 25) ?_
   intro b359 w360 hu361 lbb359 ltb359 hb359
   simp only[Act.put,mkT_set]
   refine stw [.int .i64 t76, .int .i64 t77] hb359 rfl rfl rfl (evT rfl rfl) (evT rfl rfl) (by kernel_rfl) rfl rfl ?_
   intro w362 hs363 hb364
   refine wln (hK358 _ _ ?_)
   refine wsr fun _ hK365=>?_
   iterate 2 (refine wpp fun k h=>?_;go_simp;apply h;clear h k)
   have cl0 := (h219.up ((((hm250.out.trans hm326.out).trans hm350.out).trans hu361.out).sto (Nat.le_trans ((Nat.le_trans ((Nat.le_trans (hm250.out.size) hm326.out.size)) hm350.out.size)) lbb359.out) hs363.out)).cell (o := 0) rfl
   have cl1 := (h219.up ((((hm250.out.trans hm326.out).trans hm350.out).trans hu361.out).sto (Nat.le_trans ((Nat.le_trans ((Nat.le_trans (hm250.out.size) hm326.out.size)) hm350.out.size)) lbb359.out) hs363.out)).cell (o := 1) rfl
   have cl2 := (h219.up ((((hm250.out.trans hm326.out).trans hm350.out).trans hu361.out).sto (Nat.le_trans ((Nat.le_trans ((Nat.le_trans (hm250.out.size) hm326.out.size)) hm350.out.size)) lbb359.out) hs363.out)).cell (o := 2) rfl
   refine wpp fun k h=>?_;go_simp;apply h;clear h k
   clear cl0 cl1 cl2
   have cl0 := hb364.cell (o := 0) rfl
   have cl1 := hb364.cell (o := 1) rfl
   refine wpp fun k h=>?_;go_simp;apply h;clear h k
   clear cl0 cl1
   refine stc (impl_PowerOf.calls K t72 t73 t108 t109 t110 t76 t77 t366 t367 w362  A368.out) ?_
   intro w369 hu370
   simp only[Act.put,mkT_set]
   iterate 5 (refine wpp fun k h=>?_;go_simp;apply h;clear h k)
   refine wln (hK365 _ _ ?_)
   refine wsr fun _ hK371=>?_
   iterate 3 (refine wpp fun k h=>?_;go_simp;apply h;clear h k)
   have hm373 := Aside0.mk ((hu361.out.sto (Nat.le_trans (Nat.le_refl _) lbb359.out) hs363.out).trans hu370.out)
   have h377 := (h219.up (((hm250.out.trans hm326.out).trans hm350.out).trans hm373.out))
   by_cases c372 : (t367 == 0) = true
   rotate_left
   ·
    rw [if_neg c372] at H; replace c372 := Bool.eq_false_iff.mpr c372
    have c372n : (t367 != 0) = true := by rw [bne, c372]; rfl
    have c372p : ¬ t367 = 0 := fun e => by simp [e] at c372
    obtain rfl := Option.some.inj H
    try simp only [c372, c372n, Bool.not_true, Bool.not_false]
    refine step_no (wantT rfl rfl rfl rfl) ?_
    simp only[Act.put,mkT_set]
    refine step_no (wantT rfl rfl rfl rfl) ?_
    simp only[Act.put,mkT_set]
    refine wpp fun k h=>?_;go_simp;apply h;clear h k
    refine wln (hK371 _ _ ?_)
    refine wp_cond_true (evT rfl rfl) ?_
    refine wsr fun _ hK407=>?_
    refine wpp fun k h=>?_;go_simp;apply h;clear h k
    refine wln (hK407 _ _ ?_)
    refine wp_ret ?_
    refine hQf _ _ _ ?_
    exact bpr (v := .bool false) ⟨rfl, ((((hm211.out.trans hm250.out).trans hm326.out).trans hm350.out).trans hm373.out)⟩
   rw [if_pos c372] at H
   have c372n : (t367 != 0) = false := by rw [bne, c372]; rfl
   try simp only [c372, c372n, Bool.not_true, Bool.not_false]
   refine BigFrame.wpList_want (wantT rfl rfl rfl rfl) fun k h=>?_;go_simp;apply h;clear h k
   refine BigFrame.wpList_want (wantT rfl rfl rfl rfl) fun k h=>?_;go_simp;apply h;clear h k
   refine wpp fun k h=>?_;go_simp;apply h;clear h k
   refine wln (hK371 _ _ ?_)
   by_cases c378 : (t366 == 0) = true
   rotate_left
   ·
    rw [if_neg c378] at H; replace c378 := Bool.eq_false_iff.mpr c378
    have c378n : (t366 != 0) = true := by rw [bne, c378]; rfl
    have c378p : ¬ t366 = 0 := fun e => by simp [e] at c378
    obtain rfl := Option.some.inj H
    try simp only [c378, c378n, Bool.not_true, Bool.not_false]
    refine wp_cond_true (evT rfl rfl) ?_
    refine wsr fun _ hK406=>?_
    refine wpp fun k h=>?_;go_simp;apply h;clear h k
    refine wln (hK406 _ _ ?_)
    refine wp_ret ?_
    refine hQf _ _ _ ?_
    exact bpr (v := .bool false) ⟨rfl, ((((hm211.out.trans hm250.out).trans hm326.out).trans hm350.out).trans hm373.out)⟩
   rw [if_pos c378] at H
   have c378n : (t366 != 0) = false := by rw [bne, c378]; rfl
   obtain ⟨⟨t391, t392⟩,A393,H⟩:=bnd H;try dsimp only at H
   try simp only [c378, c378n, Bool.not_true, Bool.not_false]
   refine wp_cond_false (evT rfl rfl) ?_
   refine wp_skip ?_
   refine hK357 _ _ ?_
   refine wp_region_lit ?_
   refine wpp fun k h=>?_;go_simp;apply h;clear h k
   try simp only [show wrap64 2 = 2 from wlit rfl]
   refine wpp fun k h=>?_;go_simp;apply h;clear h k
   refine wln (hK354 _ _ ?_)
   refine rounds_k (fun K379 hK379 => ?_)
   refine wsr fun _ hK380=>?_
   refine wpp fun k h=>?_;go_simp;apply h;clear h k
   refine wln (hK380 _ _ ?_)
   refine wp_seq_k fun K381 hK381=>?_
   refine wp_cond_true (evT rfl rfl) ?_
   refine wp_skip ?_
   refine hK381 _ _ ?_
   refine wp_seq_k fun K382 hK382=>?_
   refine wp_block ?_
   refine wsr fun _ hK383=>?_
   refine wpp fun k h=>?_;go_simp;apply h;clear h k
   have cl0 := (h352.up hm373.out).cell (o := 4) rfl
   have cl1 := (h352.up hm373.out).cell (o := 5) rfl
   refine wpp fun k h=>?_;go_simp;apply h;clear h k
   clear cl0 cl1
   refine stp (cs := [.int .i64 0, .int .i64 0]) (T := 25) ?_
   intro b384 w385 hu386 lbb384 ltb384 hb384
   simp only[Act.put,mkT_set]
   refine stw [.int .i64 t78, .int .i64 t79] hb384 rfl rfl rfl (evT rfl rfl) (evT rfl rfl) (by kernel_rfl) rfl rfl ?_
   intro w387 hs388 hb389
   refine wln (hK383 _ _ ?_)
   refine wsr fun _ hK390=>?_
   iterate 2 (refine wpp fun k h=>?_;go_simp;apply h;clear h k)
   have cl0 := (h377.up (hu386.out.sto (Nat.le_trans (Nat.le_refl _) lbb384.out) hs388.out)).cell (o := 0) rfl
   have cl1 := (h377.up (hu386.out.sto (Nat.le_trans (Nat.le_refl _) lbb384.out) hs388.out)).cell (o := 1) rfl
   have cl2 := (h377.up (hu386.out.sto (Nat.le_trans (Nat.le_refl _) lbb384.out) hs388.out)).cell (o := 2) rfl
   refine wpp fun k h=>?_;go_simp;apply h;clear h k
   clear cl0 cl1 cl2
   have cl0 := hb389.cell (o := 0) rfl
   have cl1 := hb389.cell (o := 1) rfl
   refine wpp fun k h=>?_;go_simp;apply h;clear h k
   clear cl0 cl1
   refine stc (impl_PowerOf.calls K t72 t73 t108 t109 t110 t78 t79 t391 t392 w387  A393.out) ?_
   intro w394 hu395
   simp only[Act.put,mkT_set]
   iterate 5 (refine wpp fun k h=>?_;go_simp;apply h;clear h k)
   refine wln (hK390 _ _ ?_)
   refine wsr fun _ hK396=>?_
   iterate 3 (refine wpp fun k h=>?_;go_simp;apply h;clear h k)
   have hm398 := Aside0.mk ((hu386.out.sto (Nat.le_trans (Nat.le_refl _) lbb384.out) hs388.out).trans hu395.out)
   have hm399 := Aside0.mk (((((hm211.out.trans hm250.out).trans hm326.out).trans hm350.out).trans hm373.out).trans hm398.out)
   by_cases c397 : (t392 == 0) = true
   rotate_left
   ·
    rw [if_neg c397] at H; replace c397 := Bool.eq_false_iff.mpr c397
    have c397n : (t392 != 0) = true := by rw [bne, c397]; rfl
    have c397p : ¬ t392 = 0 := fun e => by simp [e] at c397
    obtain rfl := Option.some.inj H
    try simp only [c397, c397n, Bool.not_true, Bool.not_false]
    refine step_no (wantT rfl rfl rfl rfl) ?_
    simp only[Act.put,mkT_set]
    refine step_no (wantT rfl rfl rfl rfl) ?_
    simp only[Act.put,mkT_set]
    refine wpp fun k h=>?_;go_simp;apply h;clear h k
    refine wln (hK396 _ _ ?_)
    refine wp_cond_true (evT rfl rfl) ?_
    refine wsr fun _ hK405=>?_
    refine wpp fun k h=>?_;go_simp;apply h;clear h k
    refine wln (hK405 _ _ ?_)
    refine wp_ret ?_
    refine hQf _ _ _ ?_
    exact bpr (v := .bool false) ⟨rfl, hm399.out⟩
   rw [if_pos c397] at H
   have c397n : (t392 != 0) = false := by rw [bne, c397]; rfl
   try simp only [c397, c397n, Bool.not_true, Bool.not_false]
   refine BigFrame.wpList_want (wantT rfl rfl rfl rfl) fun k h=>?_;go_simp;apply h;clear h k
   refine BigFrame.wpList_want (wantT rfl rfl rfl rfl) fun k h=>?_;go_simp;apply h;clear h k
   refine wpp fun k h=>?_;go_simp;apply h;clear h k
   refine wln (hK396 _ _ ?_)
   by_cases c400 : (t391 == 0) = true
   rotate_left
   ·
    rw [if_neg c400] at H; replace c400 := Bool.eq_false_iff.mpr c400
    have c400n : (t391 != 0) = true := by rw [bne, c400]; rfl
    have c400p : ¬ t391 = 0 := fun e => by simp [e] at c400
    obtain rfl := Option.some.inj H
    try simp only [c400, c400n, Bool.not_true, Bool.not_false]
    refine wp_cond_true (evT rfl rfl) ?_
    refine wsr fun _ hK404=>?_
    refine wpp fun k h=>?_;go_simp;apply h;clear h k
    refine wln (hK404 _ _ ?_)
    refine wp_ret ?_
    refine hQf _ _ _ ?_
    exact bpr (v := .bool false) ⟨rfl, hm399.out⟩
   rw [if_pos c400] at H
   have c400n : (t391 != 0) = false := by rw [bne, c400]; rfl
   try simp only [c400, c400n, Bool.not_true, Bool.not_false]
   refine wp_cond_false (evT rfl rfl) ?_
   refine wp_skip ?_
   refine hK382 _ _ ?_
   refine wp_region_lit ?_
   refine wpp fun k h=>?_;go_simp;apply h;clear h k
   try simp only [show wrap64 3 = 3 from wlit rfl]
   refine wpp fun k h=>?_;go_simp;apply h;clear h k
   refine wln (hK379 _ _ ?_)
   refine rounds_k (fun K401 hK401 => ?_)
   refine wsr fun _ hK402=>?_
   refine wpp fun k h=>?_;go_simp;apply h;clear h k
   refine wln (hK402 _ _ ?_)
   refine wp_seq_k fun K403 hK403=>?_
   refine wp_cond_false (evT rfl rfl) ?_
   refine wp_exit ?_
   exact hK323 _ _ _ (by kernel_rfl) ⟨H, ((hm350.out.trans hm373.out).trans hm398.out)⟩
  refine wsr fun _ hK411=>?_
  iterate 3 (refine wpp fun k h=>?_;go_simp;apply h;clear h k)
  by_cases c412 : (t224 == 0) = true
  rotate_left
  ·
   rw [if_neg c412] at H; replace c412 := Bool.eq_false_iff.mpr c412
   have c412n : (t224 != 0) = true := by rw [bne, c412]; rfl
   have c412p : ¬ t224 = 0 := fun e => by simp [e] at c412
   try simp only [c412, c412n, Bool.not_true, Bool.not_false]
   refine step_no (wantT rfl rfl rfl rfl) ?_
   simp only[Act.put,mkT_set]
   refine step_no (wantT rfl rfl rfl rfl) ?_
   simp only[Act.put,mkT_set]
   refine step_no (wantT rfl rfl rfl rfl) ?_
   simp only[Act.put,mkT_set]
   refine wpp fun k h=>?_;go_simp;apply h;clear h k
   refine wln (hK411 _ _ ?_)
   refine wp_cond_false (evT rfl rfl) ?_
   refine wp_skip ?_
   exact hK410 _ _ _ (by kernel_rfl) ⟨H, (Up.refl _)⟩
  rw [if_pos c412] at H
  have c412n : (t224 != 0) = false := by rw [bne, c412]; rfl
  try simp only [c412, c412n, Bool.not_true, Bool.not_false]
  refine BigFrame.wpList_want (wantT rfl rfl rfl rfl) fun k h=>?_;go_simp;apply h;clear h k
  have cl0 := (h213.up ((hm250.out.trans hu258.out).trans hu260.out)).cell (o := 2) rfl
  refine BigFrame.wpList_want (wantT rfl rfl rfl rfl) fun k h=>?_;go_simp;apply h;clear h k
  clear cl0
  refine BigFrame.wpList_want (wantT rfl rfl rfl rfl) fun k h=>?_;go_simp;apply h;clear h k
  refine wpp fun k h=>?_;go_simp;apply h;clear h k
  refine wln (hK411 _ _ ?_)
  by_cases c414 : (t15 == 0) = true
  ·
   rw [if_pos c414] at H
   have c414n : (t15 != 0) = false := by rw [bne, c414]; rfl
   try simp only [c414, c414n, Bool.not_true, Bool.not_false]
   refine wp_cond_false (evT rfl rfl) ?_
   refine wp_skip ?_
   exact hK410 _ _ _ (by kernel_rfl) ⟨H, (Up.refl _)⟩
  rw [if_neg c414] at H; replace c414 := Bool.eq_false_iff.mpr c414
  have c414n : (t15 != 0) = true := by rw [bne, c414]; rfl
  have c414p : ¬ t15 = 0 := fun e => by simp [e] at c414
  obtain ⟨⟨t416, t417, t418⟩,A419,H⟩:=bnd H;try dsimp only at H
  try simp only [c414, c414n, Bool.not_true, Bool.not_false]
  refine wp_cond_true (evT rfl rfl) ?_
  refine wsr fun _ hK415=>?_
  iterate 2 (refine wpp fun k h=>?_;go_simp;apply h;clear h k)
  have cl0 := (h213.up ((hm250.out.trans hu258.out).trans hu260.out)).cell (o := 0) rfl
  have cl1 := (h213.up ((hm250.out.trans hu258.out).trans hu260.out)).cell (o := 1) rfl
  have cl2 := (h213.up ((hm250.out.trans hu258.out).trans hu260.out)).cell (o := 2) rfl
  refine wpp fun k h=>?_;go_simp;apply h;clear h k
  clear cl0 cl1 cl2
  have cl0 := (h251.up (hu258.out.trans hu260.out)).cell (o := 0) rfl
  have cl1 := (h251.up (hu258.out.trans hu260.out)).cell (o := 1) rfl
  refine wpp fun k h=>?_;go_simp;apply h;clear h k
  clear cl0 cl1
  refine stc (impl_InversePoint.calls K t11 t12 t13 t14 t15 t222 t223 t416 t417 t418 w259  A419.out) ?_
  intro w420 hu421
  simp only[Act.put,mkT_set]
  iterate 3 (refine wpp fun k h=>?_;go_simp;apply h;clear h k)
  refine stp (cs := [.int .i64 0, .int .i64 0]) (T := 25) ?_
  intro b422 w423 hu424 lbb422 ltb422 hb422
  simp only[Act.put,mkT_set]
  refine stw [.int .i64 t416, .int .i64 t417] hb422 rfl rfl rfl (evT rfl rfl) (evT rfl rfl) (by kernel_rfl) rfl rfl ?_
  intro w425 hs426 hb427
  refine wpp fun k h=>?_;go_simp;apply h;clear h k
  refine wln (hK415 _ _ ?_)
  refine wsr fun _ hK428=>?_
  iterate 3 (refine wpp fun k h=>?_;go_simp;apply h;clear h k)
  have hm430 := Aside0.mk ((hu421.out.trans hu424.out).sto (Nat.le_trans (hu421.out.size) lbb422.out) hs426.out)
  have h432 := (h214.up (((hm250.out.trans hu258.out).trans hu260.out).trans hm430.out))
  by_cases c429 : (t418 == 0) = true
  rotate_left
  ·
   rw [if_neg c429] at H; replace c429 := Bool.eq_false_iff.mpr c429
   have c429n : (t418 != 0) = true := by rw [bne, c429]; rfl
   have c429p : ¬ t418 = 0 := fun e => by simp [e] at c429
   obtain rfl := Option.some.inj H
   try simp only [c429, c429n, Bool.not_true, Bool.not_false]
   refine step_no (wantT rfl rfl rfl rfl) ?_
   simp only[Act.put,mkT_set]
   refine step_no (wantT rfl rfl rfl rfl) ?_
   simp only[Act.put,mkT_set]
   refine step_no (wantT rfl rfl rfl rfl) ?_
   simp only[Act.put,mkT_set]
   refine wpp fun k h=>?_;go_simp;apply h;clear h k
   refine wln (hK428 _ _ ?_)
   refine wp_cond_true (evT rfl rfl) ?_
   refine wsr fun _ hK440=>?_
   refine wpp fun k h=>?_;go_simp;apply h;clear h k
   refine wln (hK440 _ _ ?_)
   refine wp_ret ?_
   refine hQf _ _ _ ?_
   exact bpr (v := .bool false) ⟨rfl, ((((hm211.out.trans hm250.out).trans hu258.out).trans hu260.out).trans hm430.out)⟩
  rw [if_pos c429] at H
  have c429n : (t418 != 0) = false := by rw [bne, c429]; rfl
  try simp only [c429, c429n, Bool.not_true, Bool.not_false]
  have cl0 := hb427.cell (o := 0) rfl
  have cl1 := hb427.cell (o := 1) rfl
  refine BigFrame.wpList_want (wantT rfl rfl rfl rfl) fun k h=>?_;go_simp;apply h;clear h k
  clear cl0 cl1
  have cl0 := h432.cell (o := 0) rfl
  have cl1 := h432.cell (o := 1) rfl
  refine BigFrame.wpList_want (wantT rfl rfl rfl rfl) fun k h=>?_;go_simp;apply h;clear h k
  clear cl0 cl1
  refine BigFrame.wpList_want (wantT rfl rfl rfl rfl) fun k h=>?_;go_simp;apply h;clear h k
  refine wpp fun k h=>?_;go_simp;apply h;clear h k
  refine wln (hK428 _ _ ?_)
  by_cases c438 : (t416 == t16 && t417 == t17) = true
  ·
   rw [if_pos c438] at H
   have c438n : (!t416 == t16 || !t417 == t17) = false := by simp only [← Bool.not_and, c438, Bool.not_true, Bool.not_false]
   try simp only [c438, c438n, Bool.not_true, Bool.not_false]
   refine wp_cond_false (evT rfl rfl) ?_
   refine wp_skip ?_
   exact hK410 _ _ _ (by kernel_rfl) ⟨H, hm430.out⟩
  rw [if_neg c438] at H; replace c438 := Bool.eq_false_iff.mpr c438
  have c438n : (!t416 == t16 || !t417 == t17) = true := by simp only [← Bool.not_and, c438, Bool.not_true, Bool.not_false]
  obtain rfl := Option.some.inj H
  try simp only [c438, c438n, Bool.not_true, Bool.not_false]
  refine wp_cond_true (evT rfl rfl) ?_
  refine wsr fun _ hK439=>?_
  refine wpp fun k h=>?_;go_simp;apply h;clear h k
  refine wln (hK439 _ _ ?_)
  refine wp_ret ?_
  refine hQf _ _ _ ?_
  exact bpr (v := .bool false) ⟨rfl, ((((hm211.out.trans hm250.out).trans hu258.out).trans hu260.out).trans hm430.out)⟩
 obtain ⟨⟨t443, t444⟩,A445,H⟩:=bnd H;try dsimp only at H
 refine wsr fun _ hK442=>?_
 refine wpp fun k h=>?_;go_simp;apply h;clear h k
 have cl0 := (h213.up (hm250.out.trans hu258.out)).cell (o := 0) rfl
 have cl1 := (h213.up (hm250.out.trans hu258.out)).cell (o := 1) rfl
 have cl2 := (h213.up (hm250.out.trans hu258.out)).cell (o := 2) rfl
 refine wpp fun k h=>?_;go_simp;apply h;clear h k
 clear cl0 cl1 cl2
 refine stc (spec_IsCircle.calls K t11 t13 t14 t15 t443 t444 w257  A445.out) ?_
 intro w446 hu447
 simp only[Act.put,mkT_set]
 iterate 5 (refine wpp fun k h=>?_;go_simp;apply h;clear h k)
 refine wln (hK442 _ _ ?_)
 refine wsr fun _ hK448=>?_
 iterate 4 (refine wpp fun k h=>?_;go_simp;apply h;clear h k)
 by_cases c449 : (t255 == t444) = true
 rotate_left
 ·
  rw [if_neg c449] at H; replace c449 := Bool.eq_false_iff.mpr c449
  have c449n : (t255 != t444) = true := by rw [bne, c449]; rfl
  have c449p : ¬ t255 = t444 := fun e => by simp [e] at c449
  obtain rfl := Option.some.inj H
  try simp only [c449, c449n, Bool.not_true, Bool.not_false]
  refine step_no (wantT rfl rfl rfl rfl) ?_
  simp only[Act.put,mkT_set]
  refine step_no (wantT rfl rfl rfl rfl) ?_
  simp only[Act.put,mkT_set]
  refine step_no (wantT rfl rfl rfl rfl) ?_
  simp only[Act.put,mkT_set]
  refine wpp fun k h=>?_;go_simp;apply h;clear h k
  refine wln (hK448 _ _ ?_)
  refine wp_cond_true (evT rfl rfl) ?_
  refine wsr fun _ hK456=>?_
  refine wpp fun k h=>?_;go_simp;apply h;clear h k
  refine wln (hK456 _ _ ?_)
  refine wp_ret ?_
  refine hQf _ _ _ ?_
  exact bpr (v := .bool false) ⟨rfl, (((hm211.out.trans hm250.out).trans hu258.out).trans hu447.out)⟩
 rw [if_pos c449] at H
 have c449n : (t255 != t444) = false := by rw [bne, c449]; rfl
 try simp only [c449, c449n, Bool.not_true, Bool.not_false]
 refine BigFrame.wpList_want (wantT rfl rfl rfl rfl) fun k h=>?_;go_simp;apply h;clear h k
 refine BigFrame.wpList_want (wantT rfl rfl rfl rfl) fun k h=>?_;go_simp;apply h;clear h k
 by_cases c451 : (t254) = true
 rotate_left
 ·
  rw [if_neg c451] at H; replace c451 := Bool.eq_false_iff.mpr c451
  have HX := H;clear H;subst c451;have H := HX;clear HX
  by_cases c454 : (t443) = true
  rotate_left
  ·
   rw [if_neg c454] at H; replace c454 := Bool.eq_false_iff.mpr c454
   have HX := H;clear H;subst c454;have H := HX;clear HX
   refine BigFrame.wpList_want (wantT rfl rfl rfl rfl) fun k h=>?_;go_simp;apply h;clear h k
   refine wpp fun k h=>?_;go_simp;apply h;clear h k
   refine wln (hK448 _ _ ?_)
   refine wp_cond_false (evT rfl rfl) ?_
   refine wp_skip ?_
   exact hK441 _ _ _ (by kernel_rfl) ⟨H, hu447.out⟩
  rw [if_pos c454] at H
  have HX := H;clear H;subst c454;have H := HX;clear HX
  obtain rfl := Option.some.inj H
  refine BigFrame.wpList_want (wantT rfl rfl rfl rfl) fun k h=>?_;go_simp;apply h;clear h k
  refine wpp fun k h=>?_;go_simp;apply h;clear h k
  refine wln (hK448 _ _ ?_)
  refine wp_cond_true (evT rfl rfl) ?_
  refine wsr fun _ hK455=>?_
  refine wpp fun k h=>?_;go_simp;apply h;clear h k
  refine wln (hK455 _ _ ?_)
  refine wp_ret ?_
  refine hQf _ _ _ ?_
  exact bpr (v := .bool false) ⟨rfl, (((hm211.out.trans hm250.out).trans hu258.out).trans hu447.out)⟩
 rw [if_pos c451] at H
 have HX := H;clear H;subst c451;have H := HX;clear HX
 by_cases c452 : (t443) = true
 ·
  rw [if_pos c452] at H
  have HX := H;clear H;subst c452;have H := HX;clear HX
  refine BigFrame.wpList_want (wantT rfl rfl rfl rfl) fun k h=>?_;go_simp;apply h;clear h k
  refine wpp fun k h=>?_;go_simp;apply h;clear h k
  refine wln (hK448 _ _ ?_)
  refine wp_cond_false (evT rfl rfl) ?_
  refine wp_skip ?_
  exact hK441 _ _ _ (by kernel_rfl) ⟨H, hu447.out⟩
 rw [if_neg c452] at H; replace c452 := Bool.eq_false_iff.mpr c452
 have HX := H;clear H;subst c452;have H := HX;clear HX
 obtain rfl := Option.some.inj H
 refine BigFrame.wpList_want (wantT rfl rfl rfl rfl) fun k h=>?_;go_simp;apply h;clear h k
 refine wpp fun k h=>?_;go_simp;apply h;clear h k
 refine wln (hK448 _ _ ?_)
 refine wp_cond_true (evT rfl rfl) ?_
 refine wsr fun _ hK453=>?_
 refine wpp fun k h=>?_;go_simp;apply h;clear h k
 refine wln (hK453 _ _ ?_)
 refine wp_ret ?_
 refine hQf _ _ _ ?_
 exact bpr (v := .bool false) ⟨rfl, (((hm211.out.trans hm250.out).trans hu258.out).trans hu447.out)⟩

end Go.Proofs.YtccbmdpikalpfaaGreat
