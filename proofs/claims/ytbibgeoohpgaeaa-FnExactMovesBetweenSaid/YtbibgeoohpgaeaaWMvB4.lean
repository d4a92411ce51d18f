/- The walks: each of these functions of the program computes what its plain function says: impl_movesWith__impl_MovesBetween_2, impl_MovesBetween, laws_eqInt64A4, laws_eqPoint, laws_eqMove, laws_eqMoveS, laws_markMoveS, laws_heldMoveS. -/
import Derived.Test.YtbibgeoohpgaeaaProg
import Derived.Test.YtbibgeoohpgaeaaD1
import Derived.WalkKit
import Derived.KernelRfl
import Derived.BigQuiet
import Derived.Deep.LoopGhost
import Derived.Laws.StructEq
import Derived.Test.YtbibgeoohpgaeaaWMvB3
namespace Go.Proofs.Ytbibgeoohpgaeaa
open Go Go.RowKit
attribute [local go_sem] Oper.quiet Oper.quietAt Oper.quietUpon
attribute [local irreducible] wpList
set_option linter.unusedVariables false
set_option linter.unusedSimpArgs false
attribute [local go_sem] eqT26

set_option maxHeartbeats 40000000 in
set_option maxRecDepth 100000 in
theorem impl_movesWith__impl_MovesBetween_2.calls (K : Nat) (a0 : Int) (a1 : Int) (a2_0 : Int) (a2_1 : Int) (a3_0 : Int) (a3_1 : Int) (bc4_0 : Nat) (c4_0_0 : Int) (bc4_1 : Nat) (c4_1_0 : Int) (c4_1_1 : Int) (bc4_2 : Nat) (c4_2_0 : Int) (c4_2_1 : Int) (r0 : List (Int × Int × Int × Int × Int × Int)) (w : World) (hc4_0 : Blk w bc4_0 [.int .i64 c4_0_0] 2) (hc4_1 : Blk w bc4_1 [.int .i64 c4_1_0, .int .i64 c4_1_1] 26) (hc4_2 : Blk w bc4_2 [.int .i64 c4_2_0, .int .i64 c4_2_1] 26) (h : impl_movesWith__impl_MovesBetween_2.f K a0 a1 a2_0 a2_1 a3_0 a3_1 c4_0_0 c4_1_0 c4_1_1 c4_2_0 c4_2_1 = some (r0)) :
    Calls Try.prog 106 #[.int .i64 a0, .int .i64 a1, .agg #[.int .i64 a2_0, .int .i64 a2_1], .agg #[.int .i64 a3_0, .int .i64 a3_1], .func (.func 107) #[] #[.pointer (some ⟨bc4_0, 0, none⟩), .pointer (some ⟨bc4_1, 0, none⟩), .pointer (some ⟨bc4_2, 0, none⟩)]] w fun e w' => ∃ (Ar0 : Option Addr) (cr0 : Nat), e = .returned (.slice Ar0 r0.length cr0) ∧ Own e6 30 w' w.heap.size (.slice Ar0 r0.length cr0) r0 ∧ Up w w' := by
 have H : (((impl_keepers.f K a0 a1).bind fun t14 => (impl_movesWith__impl_MovesBetween_2.l0 K a0 a2_0 a2_1 a3_0 a3_1 c4_0_0 c4_1_0 c4_1_1 c4_2_0 c4_2_1 t14 K 0 ([] : List (Int × Int × Int × Int × Int × Int)))) : Option (List (Int × Int × Int × Int × Int × Int))) = some (r0) := h
 clear h
 replace H := Option.bind_eq_some_iff.mp H
 obtain ⟨t14, A17, H⟩ := H
 replace A17 := Aside0.mk A17
 try dsimp only at H
 have ltbc4_0 := Aside0.mk hc4_0.lt
 have ltbc4_1 := Aside0.mk hc4_1.lt
 have ltbc4_2 := Aside0.mk hc4_2.lt
 go_enter Try.func106, Try.ntmps106
 refine wp_hide (fun Qf hQf => ?_)
 refine wp_seq_k (fun K1 hK1 => ?_)
 refine wp_region_lit ?_
 refine step_new (cs := [.int .i64 a2_0, .int .i64 a2_1]) (T := 26) (f := fun b => .pointer (some ⟨b, 0, none⟩)) rfl (by first | (go_simp; done) | (go_simp; rfl)) ?_
 intro b2 w3 hu lb hb2
 simp only [Act.put, nm1, nm2, nm3, i64_w]
 have lbb2 := Aside0.mk lb
 have ltb2 := Aside0.mk hb2.lt
 clear lb
 have hu4 := Aside0.mk hu
 clear hu
 refine step_new (cs := [.int .i64 a3_0, .int .i64 a3_1]) (T := 26) (f := fun b => .pointer (some ⟨b, 0, none⟩)) rfl (by first | (go_simp; done) | (go_simp; rfl)) ?_
 intro b5 w6 hu lb hb5
 simp only [Act.put, nm1, nm2, nm3, i64_w]
 have lbb5 := Aside0.mk lb
 have ltb5 := Aside0.mk hb5.lt
 clear lb
 have hu7 := Aside0.mk hu
 clear hu
 refine wpList_plain rfl (fun Ko hKo => ?_)
 go_simp
 refine hKo _ _ ?_
 clear hKo Ko
 try simp only [Act.put, nm1, nm2, nm3, i64_w]
 refine wpList_nil ?_
 (try simp only [Exit.then, Exit.inBlock, ↓reduceIte, Nat.reduceEqDiff])
 refine hK1 _ _ ?_
 refine wp_seq_k (fun K8 hK8 => ?_)
 refine wp_region_lit ?_
 refine step_new (cs := []) (T := 30) (f := fun b => .slice (some ⟨b, 0, none⟩) 0 0) rfl (by first | (go_simp; done) | (go_simp; rfl)) ?_
 intro b9 w10 hu lb hb9
 simp only [Act.put, nm1, nm2, nm3, i64_w]
 have lbb9 := Aside0.mk lb
 have ltb9 := Aside0.mk hb9.lt
 clear lb
 have hu11 := Aside0.mk hu
 clear hu
 refine wpList_plain rfl (fun Ko hKo => ?_)
 go_simp
 refine hKo _ _ ?_
 clear hKo Ko
 try simp only [Act.put, nm1, nm2, nm3, i64_w]
 refine wpList_nil ?_
 (try simp only [Exit.then, Exit.inBlock, ↓reduceIte, Nat.reduceEqDiff])
 refine hK8 _ _ ?_
 refine wp_seq_k (fun K12 hK12 => ?_)
 refine wp_seq_k (fun K13 hK13 => ?_)
 refine wp_region_lit ?_
 refine wpList_plain rfl (fun Ko hKo => ?_)
 go_simp
 refine hKo _ _ ?_
 clear hKo Ko
 try simp only [Act.put, nm1, nm2, nm3, i64_w]
 refine wpList_plain rfl (fun Ko hKo => ?_)
 go_simp
 refine hKo _ _ ?_
 clear hKo Ko
 try simp only [Act.put, nm1, nm2, nm3, i64_w]
 refine step_call (wanted_none rfl) (by first | (go_simp; done) | (go_simp; rfl)) (impl_keepers.calls K a0 a1 t14 w10  A17.out) ?_
 rintro e w18 ⟨P15, q16, rfl, ht14, hu⟩
 have hu19 := Aside0.mk hu
 clear hu
 refine ⟨_, rfl, ?_⟩
 simp only [Act.put, nm1, nm2, nm3, i64_w]
 refine wpList_plain rfl (fun Ko hKo => ?_)
 go_simp
 refine hKo _ _ ?_
 clear hKo Ko
 try simp only [Act.put, nm1, nm2, nm3, i64_w]
 refine wpList_plain rfl (fun Ko hKo => ?_)
 go_simp
 refine hKo _ _ ?_
 clear hKo Ko
 try simp only [Act.put, nm1, nm2, nm3, i64_w]
 refine wpList_nil ?_
 (try simp only [Exit.then, Exit.inBlock, ↓reduceIte, Nat.reduceEqDiff])
 refine hK13 _ _ ?_
 refine wp_block ?_
 have h21 : Own e6 30 w18 w6.heap.size (.slice (some ⟨b9, 0, none⟩) ([].length) 0) [] := Own.of_blk (hb9.up hu19.out) lbb9.out rfl (by simp) (by simp [Enc.flat, e6])
 have h22 : Own e6 30 w10 w6.heap.size (.slice (some ⟨b9, 0, none⟩) ([].length) 0) [] := Own.of_blk hb9 lbb9.out rfl (by simp) (by simp [Enc.flat, e6])
 have HL30 := Aside0.mk H
 clear H
 go_loopg [21, 11] K (fun kq v21 v11 w' => ∃ (x23 : Int) (x24 : List (Int × Int × Int × Int × Int × Int)) (P25 : Option Addr) (q26 : Nat), v21 = .int .i64 x23 ∧ v11 = .slice P25 x24.length q26 ∧ Aside0 (impl_movesWith__impl_MovesBetween_2.l0 K a0 a2_0 a2_1 a3_0 a3_1 c4_0_0 c4_1_0 c4_1_1 c4_2_0 c4_2_1 t14 kq x23 x24 = some (r0)) ∧ Aside0 (kq ≤ K) ∧ Aside0 (Up w6 w') ∧ Aside0 (w18.heap.size ≤ w'.heap.size) ∧ Own e4 22 w' w10.heap.size (.slice P15 t14.length q16) t14 ∧ Own e6 30 w' w6.heap.size (.slice P25 x24.length q26) x24 ∧ Aside0 (∀ k, blk (.slice P25 x24.length q26) = some k → k ≠ b2) ∧ Aside0 (∀ k, blk (.slice P25 x24.length q26) = some k → k ≠ b5) ∧ Aside0 (∀ k l, blk (.slice P25 x24.length q26) = some k → blk (.slice P15 t14.length q16) = some l → k ≠ l))
 case atStart => exact ⟨0, ([] : List (Int × Int × Int × Int × Int × Int)), some ⟨b9, 0, none⟩, 0, (by first | rfl | simp), (by first | rfl | simp), HL30, ⟨Nat.le_refl _⟩, ⟨(hu11.out.trans hu19.out)⟩, ⟨Nat.le_refl _⟩, ht14, h21, ⟨(fun k hk => Ne.symm ((fun k hk => Nat.ne_of_lt (Nat.lt_of_lt_of_le (Nat.lt_of_lt_of_le ltb2.out (hu7.out.size)) ((fun k hk => Nat.le_trans (Nat.le_refl _) (h22.lt k hk).1) k hk))) k hk))⟩, ⟨(fun k hk => Ne.symm ((fun k hk => Nat.ne_of_lt (Nat.lt_of_lt_of_le ltb5.out ((fun k hk => Nat.le_trans (Nat.le_refl _) (h22.lt k hk).1) k hk))) k hk))⟩, ⟨(fun k l hk hl => Nat.ne_of_lt (Nat.lt_of_lt_of_le ((fun k hk => Nat.lt_of_lt_of_le (h22.lt k hk).2 (Nat.le_refl _)) k hk) ((fun k hk => Nat.le_trans (Nat.le_refl _) (ht14.lt k hk).1) l hl)))⟩⟩
 case round =>
  rename_i J39 K40 hJ39 hK40
  obtain ⟨x23, x24, P25, q26, rfl, rfl, HL38, hk37, hu28, hz29, h31, h32, hn33, hn34, hn35⟩ := hrel
  obtain ⟨w27, rfl⟩ : ∃ wo : World, wo = wr := ⟨_, rfl⟩
  obtain ⟨k36, rfl⟩ | rfl : (∃ k, gk = k + 1) ∨ gk = 0 := by rcases gk with _ | k; exact .inr rfl; exact .inl ⟨k, rfl⟩
  case inr => exact absurd HL38.out (by simp [impl_movesWith__impl_MovesBetween_2.l0])
  have H := HL38.out
  clear HL38
  rw [impl_movesWith__impl_MovesBetween_2.l0] at H
  refine wp_seq_k (fun K41 hK41 => ?_)
  refine wp_region_lit ?_
  refine wpList_plain rfl (fun Ko hKo => ?_)
  go_simp
  refine hKo _ _ ?_
  clear hKo Ko
  try simp only [Act.put, nm1, nm2, nm3, i64_w]
  refine wpList_nil ?_
  (try simp only [Exit.then, Exit.inBlock, ↓reduceIte, Nat.reduceEqDiff])
  refine hK41 _ _ ?_
  refine wp_seq_k (fun K42 hK42 => ?_)
  have hm44 := Aside0.mk (Nat.le_trans ((Nat.le_trans ((Nat.le_trans ((Nat.le_trans (hu4.out.size) hu7.out.size)) hu11.out.size)) hu19.out.size)) hz29.out)
  by_cases c43 : (decide (x23 < (t14.length : Int))) = true
  ·
   rw [if_pos c43] at H
   replace H := Option.bind_eq_some_iff.mp H
   obtain ⟨⟨t47, t48, t49, t50⟩, A51, H⟩ := H
   replace A51 := Aside0.mk A51
   try dsimp only at H
   replace H := Option.bind_eq_some_iff.mp H
   obtain ⟨t62, A63, H⟩ := H
   replace A63 := Aside0.mk A63
   try dsimp only at H
   try simp only [c43, Bool.not_true, Bool.not_false]
   refine wp_cond_true rfl ?_
   refine wp_skip ?_
   (try simp only [Exit.then, Exit.inBlock, ↓reduceIte, Nat.reduceEqDiff])
   refine hK42 _ _ ?_
   refine wp_seq_k (fun K45 hK45 => ?_)
   refine wp_block ?_
   refine wp_seq_k (fun K46 hK46 => ?_)
   refine wp_region_lit ?_
   refine step_index e4 (T := 22) (wanted_none rfl) rfl (by kernel_rfl) (by kernel_rfl) rfl rfl rfl h31.rd A51.out ?_
   intro ad52 hat he
   have he53 := Aside0.mk he
   have hat54 := Aside0.mk hat
   clear he hat
   simp only [Act.put, nm1, nm2, nm3, i64_w]
   have cl0 := he53.out 0 _ rfl
   rw [addr_add0] at cl0
   have cl1 : World.cell? _ ⟨ad52.block, ad52.off + 1, none⟩ = some _ := he53.out 1 _ rfl
   have cl2 : World.cell? _ ⟨ad52.block, ad52.off + 2, none⟩ = some _ := he53.out 2 _ rfl
   have cl3 : World.cell? _ ⟨ad52.block, ad52.off + 3, none⟩ = some _ := he53.out 3 _ rfl
   refine wpList_plain rfl (fun Ko hKo => ?_)
   go_simp
   refine hKo _ _ ?_
   clear hKo Ko
   clear cl0 cl1 cl2 cl3
   try simp only [Act.put, nm1, nm2, nm3, i64_w]
   refine step_new (cs := [.int .i64 0, .int .i64 0, .int .i64 0, .int .i64 0]) (T := 22) (f := fun b => .pointer (some ⟨b, 0, none⟩)) rfl (by first | (go_simp; done) | (go_simp; rfl)) ?_
   intro b55 w56 hu lb hb55
   simp only [Act.put, nm1, nm2, nm3, i64_w]
   have lbb55 := Aside0.mk lb
   have ltb55 := Aside0.mk hb55.lt
   clear lb
   have hu57 := Aside0.mk hu
   clear hu
   have hB0 := hb55
   have cl0 := hB0.cell (o := 0) rfl
   have fr0 := hB0.free 0
   have cl1 := hB0.cell (o := 1) rfl
   have fr1 := hB0.free 1
   have cl2 := hB0.cell (o := 2) rfl
   have fr2 := hB0.free 2
   have cl3 := hB0.cell (o := 3) rfl
   have fr3 := hB0.free 3
   refine step_store (b := b55) (cs' := [.int .i64 t47, .int .i64 t48, .int .i64 t49, .int .i64 t50]) (T := 22) (W' := ((((w56.setCell ⟨b55, 0, none⟩ (.int .i64 t47)).setCell ⟨b55, 1, none⟩ (.int .i64 t48)).setCell ⟨b55, 2, none⟩ (.int .i64 t49)).setCell ⟨b55, 3, none⟩ (.int .i64 t50))) rfl rfl (by first | (go_simp; done) | (go_simp; rfl)) (((((Sto.refl _ _).setCell 0 _).setCell 1 _).setCell 2 _).setCell 3 _) (((((hB0).setCell 0 _).setCell 1 _).setCell 2 _).setCell 3 _) ?_
   clear hB0 cl0 fr0 cl1 fr1 cl2 fr2 cl3 fr3
   intro w58 hs hb60
   have hs59 := Aside0.mk hs
   clear hs
   refine wpList_nil ?_
   (try simp only [Exit.then, Exit.inBlock, ↓reduceIte, Nat.reduceEqDiff])
   refine hK46 _ _ ?_
   refine wp_seq_k (fun K61 hK61 => ?_)
   refine wp_region_lit ?_
   refine wpList_plain rfl (fun Ko hKo => ?_)
   go_simp
   refine hKo _ _ ?_
   clear hKo Ko
   try simp only [Act.put, nm1, nm2, nm3, i64_w]
   have cl0 := hb60.cell (o := 0) rfl
   have cl1 := hb60.cell (o := 1) rfl
   have cl2 := hb60.cell (o := 2) rfl
   have cl3 := hb60.cell (o := 3) rfl
   refine wpList_plain rfl (fun Ko hKo => ?_)
   go_simp
   refine hKo _ _ ?_
   clear hKo Ko
   clear cl0 cl1 cl2 cl3
   try simp only [Act.put, nm1, nm2, nm3, i64_w]
   refine step_call (wanted_none rfl) (by first | (go_simp; done) | (go_simp; rfl)) (impl_MovesBetween_2.calls K t47 t48 t49 t50 bc4_0 c4_0_0 bc4_1 c4_1_0 c4_1_1 bc4_2 c4_2_0 c4_2_1 t62 w58 (hc4_0.up ((((hu4.out.trans hu7.out).trans hu28.out).trans hu57.out).sto (Nat.le_trans (hm44.out) lbb55.out) hs59.out)) (hc4_1.up ((((hu4.out.trans hu7.out).trans hu28.out).trans hu57.out).sto (Nat.le_trans (hm44.out) lbb55.out) hs59.out)) (hc4_2.up ((((hu4.out.trans hu7.out).trans hu28.out).trans hu57.out).sto (Nat.le_trans (hm44.out) lbb55.out) hs59.out)) A63.out) ?_
   rintro e w64 ⟨rfl, hu⟩
   have hu65 := Aside0.mk hu
   clear hu
   refine ⟨_, rfl, ?_⟩
   simp only [Act.put, nm1, nm2, nm3, i64_w]
   refine wpList_nil ?_
   (try simp only [Exit.then, Exit.inBlock, ↓reduceIte, Nat.reduceEqDiff])
   refine hK61 _ _ ?_
   have hm67 := Aside0.mk (((((hu4.out.trans hu7.out).trans hu28.out).trans hu57.out).sto (Nat.le_trans (hm44.out) lbb55.out) hs59.out).trans hu65.out)
   have hm68 := Aside0.mk (Nat.le_trans ((Nat.le_trans ((Nat.le_trans (hm44.out) hu57.out.size)) (Nat.le_of_eq hs59.out.size.symm))) hu65.out.size)
   have hm69 := Aside0.mk (((hu28.out.trans hu57.out).sto (Nat.le_trans ((Nat.le_trans ((Nat.le_trans (hu11.out.size) hu19.out.size)) hz29.out)) lbb55.out) hs59.out).trans hu65.out)
   have hm70 := Aside0.mk (Nat.le_trans ((Nat.le_trans ((Nat.le_trans ((Nat.le_trans ((Nat.le_trans (hu11.out.size) hu19.out.size)) hz29.out)) hu57.out.size)) (Nat.le_of_eq hs59.out.size.symm))) hu65.out.size)
   have hm71 := Aside0.mk (Nat.le_trans ((Nat.le_trans ((Nat.le_trans ((Nat.le_trans (Nat.le_refl _) hz29.out)) hu57.out.size)) (Nat.le_of_eq hs59.out.size.symm))) hu65.out.size)
   have h72 := (hb2.up ((((hu7.out.trans hu28.out).trans hu57.out).sto (Nat.le_trans ((Nat.le_trans ((Nat.le_trans ((Nat.le_trans (hu7.out.size) hu11.out.size)) hu19.out.size)) hz29.out)) lbb55.out) hs59.out).trans hu65.out))
   by_cases c66 : (t62) = true
   ·
    rw [if_pos c66] at H
    subst c66
    replace H := Option.bind_eq_some_iff.mp H
    obtain ⟨⟨t73, t74⟩, A75, H⟩ := H
    replace A75 := Aside0.mk A75
    try dsimp only at H
    replace H := Option.bind_eq_some_iff.mp H
    obtain ⟨⟨t76, t77⟩, A78, H⟩ := H
    replace A78 := Aside0.mk A78
    try dsimp only at H
    refine wp_cond_true rfl ?_
    refine' wp_region_up 11 [Slot.det _, Slot.det _, Slot.det _, Slot.det _, Slot.det _, Slot.det _, Slot.det _, Slot.det (.agg #[.int .i64 t73, .int .i64 t74]), Slot.det (.agg #[.int .i64 t76, .int .i64 t77]), Slot.det _, Slot.any (SlTo 1 [.int .i64 t47, .int .i64 t48, .int .i64 t49, .int .i64 t50, .int .i64 t76, .int .i64 t77] 30 w64.heap.size) false] (by kernel_rfl) (by kernel_rfl) ?main
    case main =>
     simp only [List.take_succ_cons, List.take_zero]
     refine wpK_ops rfl (fun w1 hu => ?_) ?_
     · clear hu
       go_simp
       first | done | rfl
     simp only [Act.put, nm1, nm2, nm3, i64_w]
     refine wpK_ops rfl (fun w1 hu => ?_) ?_
     · have cl0 := ((hb60.up hu65.out).up ((Up.refl _).drew.trans hu)).cell (o := 0) rfl
       have cl1 := ((hb60.up hu65.out).up ((Up.refl _).drew.trans hu)).cell (o := 1) rfl
       have cl2 := ((hb60.up hu65.out).up ((Up.refl _).drew.trans hu)).cell (o := 2) rfl
       have cl3 := ((hb60.up hu65.out).up ((Up.refl _).drew.trans hu)).cell (o := 3) rfl
       go_simp
       first | done | rfl
     simp only [Act.put, nm1, nm2, nm3, i64_w]
     refine wpK_ops rfl (fun w1 hu => ?_) ?_
     · clear hu
       go_simp
       first | done | rfl
     simp only [Act.put, nm1, nm2, nm3, i64_w]
     refine wpK_ops rfl (fun w1 hu => ?_) ?_
     · have cl0 := ((hb5.up hm69.out).up ((Up.refl _).drew.trans hu)).cell (o := 0) rfl
       have cl1 := ((hb5.up hm69.out).up ((Up.refl _).drew.trans hu)).cell (o := 1) rfl
       go_simp
       first | done | rfl
     simp only [Act.put, nm1, nm2, nm3, i64_w]
     refine wpK_ops rfl (fun w1 hu => ?_) ?_
     · clear hu
       go_simp
       first | done | rfl
     simp only [Act.put, nm1, nm2, nm3, i64_w]
     refine wpK_ops rfl (fun w1 hu => ?_) ?_
     · have cl0 := ((hb60.up hu65.out).up ((Up.refl _).drew.trans hu)).cell (o := 0) rfl
       have cl1 := ((hb60.up hu65.out).up ((Up.refl _).drew.trans hu)).cell (o := 1) rfl
       have cl2 := ((hb60.up hu65.out).up ((Up.refl _).drew.trans hu)).cell (o := 2) rfl
       have cl3 := ((hb60.up hu65.out).up ((Up.refl _).drew.trans hu)).cell (o := 3) rfl
       go_simp
       first | done | rfl
     simp only [Act.put, nm1, nm2, nm3, i64_w]
     refine wpK_ops rfl (fun w1 hu => ?_) ?_
     · have cl0 := (h72.up ((Up.refl _).drew.trans hu)).cell (o := 0) rfl
       have cl1 := (h72.up ((Up.refl _).drew.trans hu)).cell (o := 1) rfl
       go_simp
       first | done | rfl
     simp only [Act.put, nm1, nm2, nm3, i64_w]
     refine wpK_ops rfl (fun w1 hu => ?_) ?_
     · have hcl := (impl_turned.calls K a0 t47 t48 t49 t50 a2_0 a2_1 t73 t74 w1  A75.out)
       clear hu
       replace hcl := Aside0.mk hcl
       go_simp
       exact hcl.out
     simp only [Act.put, nm1, nm2, nm3, i64_w]
     refine wpK_ops rfl (fun w1 hu => ?_) ?_
     · have hcl := (impl_less.calls K a0 a3_0 a3_1 t73 t74 t76 t77 w1  A78.out)
       clear hu
       replace hcl := Aside0.mk hcl
       go_simp
       exact hcl.out
     simp only [Act.put, nm1, nm2, nm3, i64_w]
     refine wpK_ops rfl (fun w1 hu => ?_) ?_
     · clear hu
       go_simp
       first | done | rfl
     simp only [Act.put, nm1, nm2, nm3, i64_w]
     refine wpK_any rfl (stab_sl _ _ _ _) (fun w1 hu _ => fresh_sl (by first | (go_simp; done) | (go_simp; rfl)) ((Up.refl _).drew.trans hu).size) (fun v79 => ?_)
     simp only [Act.put, nm1, nm2, nm3, i64_w]
     refine wpK_nil ?_
     intro w81 hu hap
     simp only [List.drop_succ_cons, List.drop_zero]
     replace hu := (Up.refl _).drew.trans hu
     obtain ⟨-, -, ⟨b80, e0, hb80, lbb80⟩, -⟩ := hap
     replace lbb80 := Aside0.mk lbb80
     have ltb80 := Aside0.mk hb80.lt
     dsimp only at e0
     subst e0
     have hu82 := Aside0.mk hu
     clear hu
     by_cases c83 : (decide (x24.length ≤ 1000000)) = true
     ·
      rw [if_pos c83] at H
      have HL96 := Aside0.mk H
      clear H
      try simp only [c83, Bool.not_true, Bool.not_false]
      have hO0 := Aside0.mk (h32.up (((hu57.out.sto (Nat.le_trans (Nat.le_refl _) lbb55.out) hs59.out).trans hu65.out).trans hu82.out))
      refine step_append e6 (z := .agg #[.int .i64 0, .int .i64 0, .int .i64 0, .int .i64 0, .int .i64 0, .int .i64 0]) (bytes := 48) (base := w6.heap.size) (xs := x24) (ys := [(t47, t48, t49, t50, t76, t77)]) (wanted_none rfl) _ _ rfl rfl (by kernel_rfl) rfl (by decide) rfl rfl rfl hO0.out (Rd.of_blk (E := e6) (xs := [(t47, t48, t49, t50, t76, t77)]) (o := 0) hb80 (by simp) (fun j u hu => by rcases j with _ | _ | _ | _ | _ | _ | j <;> simp_all [Enc.flat, e6])) ((Nat.le_trans (hm70.out) hu82.out.size)) (by have h0_ := (of_decide_eq_true (by assumption) : x24.length ≤ 1000000); (try simp only [List.length_cons, List.length_nil]); omega) ?_
      intro P84 q85 w86 h88 hg hat
      have hg89 := Aside0.mk hg
      have hat90 := Aside0.mk hat
      simp only [Act.put, nm1, nm2, nm3, i64_w]
      have lb91 := Aside0.mk hO0.out.lt
      clear hO0 hg hat
      have h92 := (h72.up hu82.out).grow hg89.out hn33.out
      have h93 := (h31.up (((hu57.out.sto (Nat.le_trans (Nat.le_refl _) lbb55.out) hs59.out).trans hu65.out).trans hu82.out)).grow hg89.out hn35.out
      have h94 := (hb60.up (hu65.out.trans hu82.out)).grow hg89.out (fun k hk => Nat.ne_of_lt (Nat.lt_of_lt_of_le ((fun k hk => Nat.lt_of_lt_of_le (h32.lt k hk).2 (Nat.le_refl _)) k hk) lbb55.out))
      have h95 := hb80.grow hg89.out (fun k hk => Nat.ne_of_lt (Nat.lt_of_lt_of_le ((fun k hk => Nat.lt_of_lt_of_le (h32.lt k hk).2 ((Nat.le_trans ((Nat.le_trans (hu57.out.size) (Nat.le_of_eq hs59.out.size.symm))) hu65.out.size))) k hk) lbb80.out))
      refine wpList_plain rfl (fun Ko hKo => ?_)
      go_simp
      refine hKo _ _ ?_
      clear hKo Ko
      try simp only [Act.put, nm1, nm2, nm3, i64_w]
      refine wpList_nil ?_
      (try simp only [Exit.then, Exit.inBlock, ↓reduceIte, Nat.reduceEqDiff])
      refine hK45 _ _ ?_
      refine wp_region_lit ?_
      refine wpList_plain rfl (fun Ko hKo => ?_)
      go_simp
      refine hKo _ _ ?_
      clear hKo Ko
      try simp only [Act.put, nm1, nm2, nm3, i64_w]
      refine wpList_plain rfl (fun Ko hKo => ?_)
      go_simp
      refine hKo _ _ ?_
      clear hKo Ko
      try simp only [Act.put, nm1, nm2, nm3, i64_w]
      refine wpList_nil ?_
      (try simp only [Exit.then, Exit.inBlock, ↓reduceIte, Nat.reduceEqDiff])
      refine hK40 _ _ ?_
      go_roundg k36
      case measure => exact Nat.lt_succ_self _
      case rel => exact ⟨wrap64 (x23 + 1), (x24 ++ [(t47, t48, t49, t50, t76, t77)]), P84, q85, (by first | rfl | simp), (by first | rfl | simp), HL96, ⟨by have := hk37.out; omega⟩, ⟨((hm69.out.trans hu82.out).grow hg89.out (fun k hk => Nat.le_trans (Nat.le_refl _) ((fun k hk => (lb91.out k hk).1) k hk)))⟩, ⟨(Nat.le_trans ((Nat.le_trans (hm71.out) hu82.out.size)) hg89.out.size)⟩, h93, h88, ⟨(fun k hk => hat90.out.elim (fun e => hn33.out k (e.symm.trans hk)) (fun g => Nat.ne_of_gt (Nat.lt_of_lt_of_le (Nat.lt_of_lt_of_le ltb2.out ((Nat.le_trans ((Nat.le_trans ((Nat.le_trans ((Nat.le_trans ((Nat.le_trans ((Nat.le_trans ((Nat.le_trans (hu7.out.size) hu11.out.size)) hu19.out.size)) hz29.out)) hu57.out.size)) (Nat.le_of_eq hs59.out.size.symm))) hu65.out.size)) hu82.out.size))) (g k hk))))⟩, ⟨(fun k hk => hat90.out.elim (fun e => hn34.out k (e.symm.trans hk)) (fun g => Nat.ne_of_gt (Nat.lt_of_lt_of_le (Nat.lt_of_lt_of_le ltb5.out ((Nat.le_trans (hm70.out) hu82.out.size))) (g k hk))))⟩, ⟨(fun k l hk hl => hat90.out.elim (fun e => hn35.out k l (e.symm.trans hk) hl) (fun g => Nat.ne_of_gt (Nat.lt_of_lt_of_le ((fun k hk => Nat.lt_of_lt_of_le (ht14.lt k hk).2 ((Nat.le_trans (hm71.out) hu82.out.size))) l hl) (g k hk))))⟩⟩
     ·
      rw [if_neg c83] at H
      replace c83 := Bool.eq_false_iff.mpr c83
      exact absurd H (by simp)
   ·
    rw [if_neg c66] at H
    replace c66 := Bool.eq_false_iff.mpr c66
    subst c66
    have HL97 := Aside0.mk H
    clear H
    refine wp_cond_false rfl ?_
    refine wp_skip ?_
    (try simp only [Exit.then, Exit.inBlock, ↓reduceIte, Nat.reduceEqDiff])
    refine hK45 _ _ ?_
    refine wp_region_lit ?_
    refine wpList_plain rfl (fun Ko hKo => ?_)
    go_simp
    refine hKo _ _ ?_
    clear hKo Ko
    try simp only [Act.put, nm1, nm2, nm3, i64_w]
    refine wpList_plain rfl (fun Ko hKo => ?_)
    go_simp
    refine hKo _ _ ?_
    clear hKo Ko
    try simp only [Act.put, nm1, nm2, nm3, i64_w]
    refine wpList_nil ?_
    (try simp only [Exit.then, Exit.inBlock, ↓reduceIte, Nat.reduceEqDiff])
    refine hK40 _ _ ?_
    go_roundg k36
    case measure => exact Nat.lt_succ_self _
    case rel => exact ⟨wrap64 (x23 + 1), x24, P25, q26, (by first | rfl | simp), (by first | rfl | simp), HL97, ⟨by have := hk37.out; omega⟩, ⟨hm69.out⟩, ⟨hm71.out⟩, (h31.up ((hu57.out.sto (Nat.le_trans (Nat.le_refl _) lbb55.out) hs59.out).trans hu65.out)), (h32.up ((hu57.out.sto (Nat.le_trans (Nat.le_refl _) lbb55.out) hs59.out).trans hu65.out)), ⟨hn33.out⟩, ⟨hn34.out⟩, ⟨hn35.out⟩⟩
  ·
   rw [if_neg c43] at H
   replace c43 := Bool.eq_false_iff.mpr c43
   try simp only [c43, Bool.not_true, Bool.not_false]
   refine wp_cond_false rfl ?_
   refine wp_exit ?_
   (try simp only [Exit.then, Exit.inBlock, ↓reduceIte, Nat.reduceEqDiff])
   refine hK12 _ _ ?_
   refine wp_seq_k (fun K98 hK98 => ?_)
   refine wp_seq_k (fun K99 hK99 => ?_)
   refine wp_region_lit ?_
   refine wpList_plain rfl (fun Ko hKo => ?_)
   go_simp
   refine hKo _ _ ?_
   clear hKo Ko
   try simp only [Act.put, nm1, nm2, nm3, i64_w]
   refine wpList_plain rfl (fun Ko hKo => ?_)
   go_simp
   refine hKo _ _ ?_
   clear hKo Ko
   try simp only [Act.put, nm1, nm2, nm3, i64_w]
   refine wpList_plain rfl (fun Ko hKo => ?_)
   go_simp
   refine hKo _ _ ?_
   clear hKo Ko
   try simp only [Act.put, nm1, nm2, nm3, i64_w]
   refine wpList_nil ?_
   (try simp only [Exit.then, Exit.inBlock, ↓reduceIte, Nat.reduceEqDiff])
   refine hK99 _ _ ?_
   refine wp_block ?_
   have HL105 := Aside0.mk H
   clear H
   go_loopg [43] k36 (fun kq v43 w' => ∃ (x100 : Int) (x101 : List (Int × Int × Int × Int × Int × Int)), v43 = .int .i64 x100 ∧ Aside0 (impl_movesWith__impl_MovesBetween_2.l1 K x24 kq x100 x101 = some (r0)) ∧ Aside0 (kq ≤ k36) ∧ Aside0 (Up w6 w') ∧ Aside0 (w27.heap.size ≤ w'.heap.size) ∧ Own e4 22 w' w10.heap.size (.slice P15 t14.length q16) t14 ∧ Own e6 30 w' w6.heap.size (.slice P25 x101.length q26) x101 ∧ Aside0 (x24.length = x101.length) ∧ Aside0 (∀ k, blk (.slice P25 x101.length q26) = some k → k ≠ b2) ∧ Aside0 (∀ k, blk (.slice P25 x101.length q26) = some k → k ≠ b5) ∧ Aside0 (∀ k l, blk (.slice P25 x101.length q26) = some k → blk (.slice P15 t14.length q16) = some l → k ≠ l))
   case atStart => exact ⟨0, x24, (by first | rfl | simp), HL105, ⟨Nat.le_refl _⟩, ⟨hu28.out⟩, ⟨Nat.le_refl _⟩, h31, h32, ⟨rfl⟩, ⟨hn33.out⟩, ⟨hn34.out⟩, ⟨hn35.out⟩⟩
   case round =>
    rename_i J115 K116 hJ115 hK116
    obtain ⟨x100, x101, rfl, HL114, hk113, hu103, hz104, h106, h107, hl108, hn109, hn110, hn111⟩ := hrel
    obtain ⟨w102, rfl⟩ : ∃ wo : World, wo = wr := ⟨_, rfl⟩
    obtain ⟨k112, rfl⟩ | rfl : (∃ k, gk = k + 1) ∨ gk = 0 := by rcases gk with _ | k; exact .inr rfl; exact .inl ⟨k, rfl⟩
    case inr => exact absurd HL114.out (by simp [impl_movesWith__impl_MovesBetween_2.l1])
    have H := HL114.out
    clear HL114
    rw [impl_movesWith__impl_MovesBetween_2.l1] at H
    refine wp_seq_k (fun K117 hK117 => ?_)
    refine wp_region_lit ?_
    refine wpList_plain rfl (fun Ko hKo => ?_)
    go_simp
    refine hKo _ _ ?_
    clear hKo Ko
    try simp only [Act.put, nm1, nm2, nm3, i64_w]
    refine wpList_nil ?_
    (try simp only [Exit.then, Exit.inBlock, ↓reduceIte, Nat.reduceEqDiff])
    refine hK117 _ _ ?_
    refine wp_seq_k (fun K118 hK118 => ?_)
    have hm120 := Aside0.mk (Nat.le_trans ((Nat.le_trans ((Nat.le_trans (hu11.out.size) hu19.out.size)) hz29.out)) hz104.out)
    by_cases c119 : (decide (x100 < (x24.length : Int))) = true
    ·
     rw [if_pos c119] at H
     try simp only [c119, Bool.not_true, Bool.not_false]
     refine wp_cond_true rfl ?_
     refine wp_skip ?_
     (try simp only [Exit.then, Exit.inBlock, ↓reduceIte, Nat.reduceEqDiff])
     refine hK118 _ _ ?_
     refine wp_seq_k (fun K121 hK121 => ?_)
     refine wp_block ?_
     refine wp_seq_k (fun K122 hK122 => ?_)
     refine wp_region_lit ?_
     refine wpList_plain rfl (fun Ko hKo => ?_)
     go_simp
     refine hKo _ _ ?_
     clear hKo Ko
     try simp only [Act.put, nm1, nm2, nm3, i64_w]
     refine wpList_plain rfl (fun Ko hKo => ?_)
     go_simp
     refine hKo _ _ ?_
     clear hKo Ko
     try simp only [Act.put, nm1, nm2, nm3, i64_w]
     refine wpList_nil ?_
     (try simp only [Exit.then, Exit.inBlock, ↓reduceIte, Nat.reduceEqDiff])
     refine hK122 _ _ ?_
     refine wp_seq_k (fun K123 hK123 => ?_)
     refine wp_region_lit ?_
     refine wpList_plain rfl (fun Ko hKo => ?_)
     go_simp
     refine hKo _ _ ?_
     clear hKo Ko
     try simp only [Act.put, nm1, nm2, nm3, i64_w]
     refine wpList_plain rfl (fun Ko hKo => ?_)
     go_simp
     refine hKo _ _ ?_
     clear hKo Ko
     try simp only [Act.put, nm1, nm2, nm3, i64_w]
     refine wpList_nil ?_
     (try simp only [Exit.then, Exit.inBlock, ↓reduceIte, Nat.reduceEqDiff])
     refine hK123 _ _ ?_
     refine wp_block ?_
     have HL129 := Aside0.mk H
     clear H
     go_loopg [15] k112 (fun kq v15 w' => ∃ (x124 : Int) (x125 : List (Int × Int × Int × Int × Int × Int)), v15 = .int .i64 x124 ∧ Aside0 (impl_movesWith__impl_MovesBetween_2.l2 K x24 x100 kq x124 x125 = some (r0)) ∧ Aside0 (kq ≤ k112) ∧ Aside0 (Up w6 w') ∧ Aside0 (w102.heap.size ≤ w'.heap.size) ∧ Own e4 22 w' w10.heap.size (.slice P15 t14.length q16) t14 ∧ Own e6 30 w' w6.heap.size (.slice P25 x125.length q26) x125 ∧ Aside0 (x24.length = x125.length) ∧ Aside0 (∀ k, blk (.slice P25 x125.length q26) = some k → k ≠ b2) ∧ Aside0 (∀ k, blk (.slice P25 x125.length q26) = some k → k ≠ b5) ∧ Aside0 (∀ k l, blk (.slice P25 x125.length q26) = some k → blk (.slice P15 t14.length q16) = some l → k ≠ l))
     case atStart => exact ⟨x100, x101, (by first | rfl | simp), HL129, ⟨Nat.le_refl _⟩, ⟨hu103.out⟩, ⟨Nat.le_refl _⟩, h106, h107, ⟨hl108.out⟩, ⟨hn109.out⟩, ⟨hn110.out⟩, ⟨hn111.out⟩⟩
     case round =>
      rename_i J139 K140 hJ139 hK140
      obtain ⟨x124, x125, rfl, HL138, hk137, hu127, hz128, h130, h131, hl132, hn133, hn134, hn135⟩ := hrel
      obtain ⟨w126, rfl⟩ : ∃ wo : World, wo = wr := ⟨_, rfl⟩
      obtain ⟨k136, rfl⟩ | rfl : (∃ k, gk = k + 1) ∨ gk = 0 := by rcases gk with _ | k; exact .inr rfl; exact .inl ⟨k, rfl⟩
      case inr => exact absurd HL138.out (by simp [impl_movesWith__impl_MovesBetween_2.l2])
      have H := HL138.out
      clear HL138
      rw [impl_movesWith__impl_MovesBetween_2.l2] at H
      refine wp_seq_k (fun K141 hK141 => ?_)
      refine wp_seq_k (fun K142 hK142 => ?_)
      by_cases c143 : (decide (0 < x124)) = true
      ·
       rw [if_pos c143] at H
       replace H := Option.bind_eq_some_iff.mp H
       obtain ⟨⟨t144, t145, t146, t147, t148, t149⟩, A150, H⟩ := H
       replace A150 := Aside0.mk A150
       try dsimp only at H
       replace H := Option.bind_eq_some_iff.mp H
       obtain ⟨⟨t157, t158, t159, t160, t161, t162⟩, A163, H⟩ := H
       replace A163 := Aside0.mk A163
       try dsimp only at H
       replace H := Option.bind_eq_some_iff.mp H
       obtain ⟨t170, A171, H⟩ := H
       replace A171 := Aside0.mk A171
       try dsimp only at H
       try simp only [c143, Bool.not_true, Bool.not_false]
       obtain ⟨ad151, hat, he⟩ := rd_at h131.rd A150.out
       have he152 := Aside0.mk he
       have hat154 := Aside0.mk hat
       clear he hat
       have h156 : Rd eI w126 (some ad151) [t144, t145, t146, t147] := Rd.of_elem0 (E := e6) (el := (t144, t145, t146, t147, t148, t149)) [.int .i64 t148, .int .i64 t149] he152.out (by simp) rfl
       obtain ⟨ad164, hat, he⟩ := rd_at h131.rd A163.out
       have he165 := Aside0.mk he
       have hat167 := Aside0.mk hat
       clear he hat
       have h169 : Rd eI w126 (some ad164) [t157, t158, t159, t160] := Rd.of_elem0 (E := e6) (el := (t157, t158, t159, t160, t161, t162)) [.int .i64 t161, .int .i64 t162] he165.out (by simp) rfl
       refine' wp_region_up 16 [Slot.det _, Slot.det _, Slot.det _, Slot.det _, Slot.det _, Slot.det (.pointer (some ad151)), Slot.det _, Slot.det _, Slot.det _, Slot.det _, Slot.det _, Slot.det (.pointer (some ad164)), Slot.det _, Slot.det _, Slot.det (.bool t170), Slot.det _] (by kernel_rfl) (by kernel_rfl) ?main
       case main =>
        simp only [List.take_succ_cons, List.take_zero]
        refine wpK_ops rfl (fun w1 hu => ?_) ?_
        · clear hu
          go_simp
          first | done | rfl
        simp only [Act.put, nm1, nm2, nm3, i64_w]
        refine wpK_ops rfl (fun w1 hu => ?_) ?_
        · clear hu
          go_simp
          first | done | rfl
        simp only [Act.put, nm1, nm2, nm3, i64_w]
        refine wpK_ops rfl (fun w1 hu => ?_) ?_
        · clear hu
          go_simp
          first | done | rfl
        simp only [Act.put, nm1, nm2, nm3, i64_w]
        refine wpK_yesU rfl (fun w1 hu => ?_) ?_
        · clear hu
          go_simp
          first | done | rfl
        simp only [Act.put, nm1, nm2, nm3, i64_w]
        refine wpK_yesU rfl (fun w1 hu => ?_) ?_
        · clear hu
          go_simp
          first | done | rfl
        simp only [Act.put, nm1, nm2, nm3, i64_w]
        refine wpK_yesU rfl (fun w1 hu => ?_) ?_
        · exact quiet_index e6 (T := 30) rfl (by kernel_rfl) (by kernel_rfl) rfl hl132.out rfl hat154.out A150.out
        simp only [Act.put, nm1, nm2, nm3, i64_w]
        refine wpK_yesU rfl (fun w1 hu => ?_) ?_
        · clear hu
          go_simp
          first | done | rfl
        simp only [Act.put, nm1, nm2, nm3, i64_w]
        refine wpK_yesU rfl (fun w1 hu => ?_) ?_
        · clear hu
          go_simp
          first | done | rfl
        simp only [Act.put, nm1, nm2, nm3, i64_w]
        refine wpK_yesU rfl (fun w1 hu => ?_) ?_
        · clear hu
          go_simp
          first | done | rfl
        simp only [Act.put, nm1, nm2, nm3, i64_w]
        refine wpK_yesU rfl (fun w1 hu => ?_) ?_
        · clear hu
          go_simp
          first | done | rfl
        simp only [Act.put, nm1, nm2, nm3, i64_w]
        refine wpK_yesU rfl (fun w1 hu => ?_) ?_
        · clear hu
          go_simp
          first | done | rfl
        simp only [Act.put, nm1, nm2, nm3, i64_w]
        refine wpK_yesU rfl (fun w1 hu => ?_) ?_
        · exact quiet_index e6 (T := 30) rfl (by kernel_rfl) (by kernel_rfl) rfl hl132.out rfl hat167.out A163.out
        simp only [Act.put, nm1, nm2, nm3, i64_w]
        refine wpK_yesU rfl (fun w1 hu => ?_) ?_
        · clear hu
          go_simp
          first | done | rfl
        simp only [Act.put, nm1, nm2, nm3, i64_w]
        refine wpK_yesU rfl (fun w1 hu => ?_) ?_
        · clear hu
          go_simp
          first | done | rfl
        simp only [Act.put, nm1, nm2, nm3, i64_w]
        refine wpK_yesU rfl (fun w1 hu => ?_) ?_
        · have hcl := (impl_before.calls K (some ad151) 4 ([t144, t145, t146, t147]) (some ad164) 4 ([t157, t158, t159, t160]) t170 w1 (h156.up ((Up.refl _).drew.trans hu)) (h169.up ((Up.refl _).drew.trans hu)) A171.out)
          clear hu
          replace hcl := Aside0.mk hcl
          go_simp
          exact hcl.out
        simp only [Act.put, nm1, nm2, nm3, i64_w]
        refine wpK_ops rfl (fun w1 hu => ?_) ?_
        · clear hu
          go_simp
          first | done | rfl
        simp only [Act.put, nm1, nm2, nm3, i64_w]
        refine wpK_nil ?_
        intro w172 hu hap
        simp only [List.drop_succ_cons, List.drop_zero]
        replace hu := (Up.refl _).drew.trans hu
        clear hap
        have hu173 := Aside0.mk hu
        clear hu
        refine wpList_nil ?_
        (try simp only [Exit.then, Exit.inBlock, ↓reduceIte, Nat.reduceEqDiff])
        refine hK142 _ _ ?_
        have hm175 := Aside0.mk (Nat.le_trans ((Nat.le_trans ((Nat.le_trans (hm44.out) hz104.out)) hz128.out)) hu173.out.size)
        by_cases c174 : (t170) = true
        ·
         rw [if_pos c174] at H
         subst c174
         replace H := Option.bind_eq_some_iff.mp H
         obtain ⟨⟨t177, t178, t179, t180, t181, t182⟩, A183, H⟩ := H
         replace A183 := Aside0.mk A183
         try dsimp only at H
         replace H := Option.bind_eq_some_iff.mp H
         obtain ⟨⟨t188, t189, t190, t191, t192, t193⟩, A194, H⟩ := H
         replace A194 := Aside0.mk A194
         try dsimp only at H
         replace H := Option.bind_eq_some_iff.mp H
         obtain ⟨⟨t199, t200, t201, t202, t203, t204⟩, A205, H⟩ := H
         replace A205 := Aside0.mk A205
         try dsimp only at H
         replace H := Option.bind_eq_some_iff.mp H
         obtain ⟨⟨t219, t220, t221, t222, t223, t224⟩, A225, H⟩ := H
         replace A225 := Aside0.mk A225
         try dsimp only at H
         have HL236 := Aside0.mk H
         clear H
         refine wp_cond_true rfl ?_
         refine wp_skip ?_
         (try simp only [Exit.then, Exit.inBlock, ↓reduceIte, Nat.reduceEqDiff])
         refine hK141 _ _ ?_
         refine wp_seq_k (fun K176 hK176 => ?_)
         refine wp_block ?_
         obtain ⟨ad184, hat, he⟩ := rd_at ((h131.up hu173.out).rd) A183.out
         have he185 := Aside0.mk he
         have hat187 := Aside0.mk hat
         clear he hat
         obtain ⟨ad195, hat, he⟩ := rd_at ((h131.up hu173.out).rd) A194.out
         have he196 := Aside0.mk he
         have hat198 := Aside0.mk hat
         clear he hat
         obtain ⟨ad206, hat, he⟩ := rd_at ((h131.up hu173.out).rd) A205.out
         have he207 := Aside0.mk he
         have hat209 := Aside0.mk hat
         clear he hat
         refine' wp_region_pure 15 [2, 3, 4] [Slot.det _, Slot.det _, Slot.pur _, Slot.pur _, Slot.pur _, Slot.det _, Slot.det _, Slot.det _, Slot.det (.pointer (some ad184)), Slot.det _, Slot.det _, Slot.det _, Slot.det (.pointer (some ad195)), Slot.det _, Slot.det (.pointer (some ad206))] (by kernel_rfl) [false, false, true, true, true, false, false, false, false, false, false, false, false, false, false] (by kernel_rfl) rfl (by kernel_rfl) (by decide) ?main
         case main =>
          simp only [List.take_succ_cons, List.take_zero]
          refine wpK_ops rfl (fun w1 hu => ?_) ?_
          · clear hu
            go_simp
            first | done | rfl
          simp only [Act.put, nm1, nm2, nm3, i64_w]
          refine wpK_ops rfl (fun w1 hu => ?_) ?_
          · clear hu
            go_simp
            first | done | rfl
          simp only [Act.put, nm1, nm2, nm3, i64_w]
          refine wpK_pur rfl (fun w1 => ?_) ?_
          · go_simp
            first | done | rfl
          simp only [Act.put, nm1, nm2, nm3, i64_w]
          refine wpK_pur rfl (fun w1 => ?_) ?_
          · go_simp
            first | done | rfl
          simp only [Act.put, nm1, nm2, nm3, i64_w]
          refine wpK_pur rfl (fun w1 => ?_) ?_
          · go_simp
            first | done | rfl
          simp only [Act.put, nm1, nm2, nm3, i64_w]
          refine wpK_ops rfl (fun w1 hu => ?_) ?_
          · clear hu
            go_simp
            first | done | rfl
          simp only [Act.put, nm1, nm2, nm3, i64_w]
          refine wpK_ops rfl (fun w1 hu => ?_) ?_
          · clear hu
            go_simp
            first | done | rfl
          simp only [Act.put, nm1, nm2, nm3, i64_w]
          refine wpK_ops rfl (fun w1 hu => ?_) ?_
          · clear hu
            go_simp
            first | done | rfl
          simp only [Act.put, nm1, nm2, nm3, i64_w]
          refine wpK_ops rfl (fun w1 hu => ?_) ?_
          · exact quiet_index e6 (T := 30) rfl (by kernel_rfl) (by kernel_rfl) rfl hl132.out rfl hat187.out A183.out
          simp only [Act.put, nm1, nm2, nm3, i64_w]
          refine wpK_ops rfl (fun w1 hu => ?_) ?_
          · have cl0 := he185.out 0 _ rfl
            rw [addr_add0] at cl0
            replace cl0 := (((Up.refl _).drew.trans hu)).kept cl0
            have cl1 : World.cell? _ ⟨ad184.block, ad184.off + 1, none⟩ = some _ := he185.out 1 _ rfl
            replace cl1 := (((Up.refl _).drew.trans hu)).kept cl1
            have cl2 : World.cell? _ ⟨ad184.block, ad184.off + 2, none⟩ = some _ := he185.out 2 _ rfl
            replace cl2 := (((Up.refl _).drew.trans hu)).kept cl2
            have cl3 : World.cell? _ ⟨ad184.block, ad184.off + 3, none⟩ = some _ := he185.out 3 _ rfl
            replace cl3 := (((Up.refl _).drew.trans hu)).kept cl3
            have cl4 : World.cell? _ ⟨ad184.block, ad184.off + 4, none⟩ = some _ := he185.out 4 _ rfl
            replace cl4 := (((Up.refl _).drew.trans hu)).kept cl4
            have cl5 : World.cell? _ ⟨ad184.block, ad184.off + 5, none⟩ = some _ := he185.out 5 _ rfl
            replace cl5 := (((Up.refl _).drew.trans hu)).kept cl5
            go_simp
            first | done | rfl
          simp only [Act.put, nm1, nm2, nm3, i64_w]
          refine wpK_ops rfl (fun w1 hu => ?_) ?_
          · clear hu
            go_simp
            first | done | rfl
          simp only [Act.put, nm1, nm2, nm3, i64_w]
          refine wpK_ops rfl (fun w1 hu => ?_) ?_
          · clear hu
            go_simp
            first | done | rfl
          simp only [Act.put, nm1, nm2, nm3, i64_w]
          refine wpK_ops rfl (fun w1 hu => ?_) ?_
          · exact quiet_index e6 (T := 30) rfl (by kernel_rfl) (by kernel_rfl) rfl hl132.out rfl hat198.out A194.out
          simp only [Act.put, nm1, nm2, nm3, i64_w]
          refine wpK_ops rfl (fun w1 hu => ?_) ?_
          · have cl0 := he196.out 0 _ rfl
            rw [addr_add0] at cl0
            replace cl0 := (((Up.refl _).drew.trans hu)).kept cl0
            have cl1 : World.cell? _ ⟨ad195.block, ad195.off + 1, none⟩ = some _ := he196.out 1 _ rfl
            replace cl1 := (((Up.refl _).drew.trans hu)).kept cl1
            have cl2 : World.cell? _ ⟨ad195.block, ad195.off + 2, none⟩ = some _ := he196.out 2 _ rfl
            replace cl2 := (((Up.refl _).drew.trans hu)).kept cl2
            have cl3 : World.cell? _ ⟨ad195.block, ad195.off + 3, none⟩ = some _ := he196.out 3 _ rfl
            replace cl3 := (((Up.refl _).drew.trans hu)).kept cl3
            have cl4 : World.cell? _ ⟨ad195.block, ad195.off + 4, none⟩ = some _ := he196.out 4 _ rfl
            replace cl4 := (((Up.refl _).drew.trans hu)).kept cl4
            have cl5 : World.cell? _ ⟨ad195.block, ad195.off + 5, none⟩ = some _ := he196.out 5 _ rfl
            replace cl5 := (((Up.refl _).drew.trans hu)).kept cl5
            go_simp
            first | done | rfl
          simp only [Act.put, nm1, nm2, nm3, i64_w]
          refine wpK_ops rfl (fun w1 hu => ?_) ?_
          · exact quiet_index e6 (T := 30) rfl (by kernel_rfl) (by kernel_rfl) rfl hl132.out rfl hat209.out A205.out
          simp only [Act.put, nm1, nm2, nm3, i64_w]
          refine wpK_nil ?_
          intro w210 hu hap
          simp only [List.drop_succ_cons, List.drop_zero]
          replace hu := (Up.refl _).drew.trans hu
          clear hap
          have hu211 := Aside0.mk hu
          clear hu
          refine late_consP ?_
          have hO0 := Aside0.mk (h131.up (hu173.out.trans hu211.out))
          have lb216 := Aside0.mk hO0.out.lt
          refine step_put e6 (T := 30) (u := .agg #[.int .i64 t177, .int .i64 t178, .int .i64 t179, .int .i64 t180, .int .i64 t181, .int .i64 t182]) (old := (t199, t200, t201, t202, t203, t204)) (new := (t177, t178, t179, t180, t181, t182)) 0 rfl rfl rfl hat209.out (addr_add0 _).symm rfl rfl (by kernel_rfl) (by simp [Value.cells, Value.oneCell']) (Nat.le_of_ble_eq_true rfl) rfl hO0.out A205.out ?_
          intro w212 h214 hg
          have hg215 := Aside0.mk hg
          clear hO0 hg
          try simp only [Act.put, nm1, nm2, nm3, i64_w]
          have h217 := (h130.up (hu173.out.trans hu211.out)).grow hg215.out hn135.out
          have hl218 : Aside0 (x24.length = (x125.set (x124).toNat (t177, t178, t179, t180, t181, t182)).length) := Aside0.mk (hl132.out.trans (List.length_set ..).symm)
          refine wpList_nil ?_
          refine wrapQ_k ?_
          refine late_consP ?_
          refine step_index e6 (T := 30) (wanted_none rfl) rfl (by kernel_rfl) (by kernel_rfl) rfl hl218.out rfl h214.rd A225.out ?_
          intro ad226 hat he
          have he227 := Aside0.mk he
          have hat228 := Aside0.mk hat
          clear he hat
          simp only [Act.put, nm1, nm2, nm3, i64_w]
          refine wpList_nil ?_
          refine wrapQ_k ?_
          refine late_consP ?_
          have hO0 := Aside0.mk h214
          have lb233 := Aside0.mk hO0.out.lt
          refine step_put e6 (T := 30) (u := .agg #[.int .i64 t188, .int .i64 t189, .int .i64 t190, .int .i64 t191, .int .i64 t192, .int .i64 t193]) (old := (t219, t220, t221, t222, t223, t224)) (new := (t188, t189, t190, t191, t192, t193)) 0 rfl rfl rfl hat228.out (addr_add0 _).symm rfl rfl (by kernel_rfl) (by simp [Value.cells, Value.oneCell']) (Nat.le_of_ble_eq_true rfl) rfl hO0.out A225.out ?_
          intro w229 h231 hg
          have hg232 := Aside0.mk hg
          clear hO0 hg
          try simp only [Act.put, nm1, nm2, nm3, i64_w]
          have h234 := h217.grow hg232.out (fun k l hk hl => hn135.out k l (blk_eq.symm.trans hk) hl)
          have hl235 : Aside0 (x24.length = ((x125.set (x124).toNat (t177, t178, t179, t180, t181, t182)).set (wrap64 (x124 - 1)).toNat (t188, t189, t190, t191, t192, t193)).length) := Aside0.mk (hl218.out.trans (List.length_set ..).symm)
          refine wpList_nil ?_
          refine wrapQ_k ?_
          refine late_nilP ?_
          (try simp only [Exit.then, Exit.inBlock, ↓reduceIte, Nat.reduceEqDiff])
          refine hK176 _ _ ?_
          refine wp_region_lit ?_
          refine wpList_plain rfl (fun Ko hKo => ?_)
          go_simp
          refine hKo _ _ ?_
          clear hKo Ko
          try simp only [Act.put, nm1, nm2, nm3, i64_w]
          refine wpList_plain rfl (fun Ko hKo => ?_)
          go_simp
          refine hKo _ _ ?_
          clear hKo Ko
          try simp only [Act.put, nm1, nm2, nm3, i64_w]
          refine wpList_plain rfl (fun Ko hKo => ?_)
          go_simp
          refine hKo _ _ ?_
          clear hKo Ko
          try simp only [Act.put, nm1, nm2, nm3, i64_w]
          refine wpList_nil ?_
          (try simp only [Exit.then, Exit.inBlock, ↓reduceIte, Nat.reduceEqDiff])
          refine hK140 _ _ ?_
          go_roundg k136
          case measure => exact Nat.lt_succ_self _
          case rel => exact ⟨wrap64 (x124 - 1), ((x125.set (x124).toNat (t177, t178, t179, t180, t181, t182)).set (wrap64 (x124 - 1)).toNat (t188, t189, t190, t191, t192, t193)), (by first | rfl | simp), HL236, ⟨by have := hk37.out; have := hk113.out; have := hk137.out; omega⟩, ⟨((((hu127.out.trans hu173.out).trans hu211.out).grow hg215.out (fun k hk => Nat.le_trans (Nat.le_refl _) ((fun k hk => (lb216.out k hk).1) k hk))).grow hg232.out (fun k hk => Nat.le_trans (Nat.le_refl _) ((fun k hk => (lb233.out k hk).1) k hk)))⟩, ⟨(Nat.le_trans ((Nat.le_trans ((Nat.le_trans ((Nat.le_trans ((Nat.le_trans (Nat.le_refl _) hz128.out)) hu173.out.size)) hu211.out.size)) hg215.out.size)) hg232.out.size)⟩, h234, h231, ⟨hl235.out⟩, ⟨(fun k hk => hn133.out k (blk_eq.symm.trans hk))⟩, ⟨(fun k hk => hn134.out k (blk_eq.symm.trans hk))⟩, ⟨(fun k l hk hl => hn135.out k l (blk_eq.symm.trans hk) hl)⟩⟩
        ·
         rw [if_neg c174] at H
         replace c174 := Bool.eq_false_iff.mpr c174
         subst c174
         have HL237 := Aside0.mk H
         clear H
         refine wp_cond_false rfl ?_
         refine wp_exit ?_
         (try simp only [Exit.then, Exit.inBlock, ↓reduceIte, Nat.reduceEqDiff])
         refine hK121 _ _ ?_
         refine wp_region_lit ?_
         refine wpList_plain rfl (fun Ko hKo => ?_)
         go_simp
         refine hKo _ _ ?_
         clear hKo Ko
         try simp only [Act.put, nm1, nm2, nm3, i64_w]
         refine wpList_plain rfl (fun Ko hKo => ?_)
         go_simp
         refine hKo _ _ ?_
         clear hKo Ko
         try simp only [Act.put, nm1, nm2, nm3, i64_w]
         refine wpList_nil ?_
         (try simp only [Exit.then, Exit.inBlock, ↓reduceIte, Nat.reduceEqDiff])
         refine hK116 _ _ ?_
         go_roundg k136
         case measure => have := hk37.out; have := hk113.out; have := hk137.out; omega
         case rel => exact ⟨wrap64 (x100 + 1), x125, (by first | rfl | simp), HL237, ⟨by have := hk37.out; have := hk113.out; have := hk137.out; omega⟩, ⟨(hu127.out.trans hu173.out)⟩, ⟨(Nat.le_trans ((Nat.le_trans ((Nat.le_trans (Nat.le_refl _) hz104.out)) hz128.out)) hu173.out.size)⟩, (h130.up hu173.out), (h131.up hu173.out), ⟨hl132.out⟩, ⟨hn133.out⟩, ⟨hn134.out⟩, ⟨hn135.out⟩⟩
      ·
       rw [if_neg c143] at H
       replace c143 := Bool.eq_false_iff.mpr c143
       have HL240 := Aside0.mk H
       clear H
       try simp only [c143, Bool.not_true, Bool.not_false]
       refine' wp_region_up 16 [Slot.det _, Slot.det _, Slot.det _, Slot.det undef, Slot.det undef, Slot.det undef, Slot.det undef, Slot.det undef, Slot.det undef, Slot.det undef, Slot.det undef, Slot.det undef, Slot.det undef, Slot.det undef, Slot.det undef, Slot.det _] (by kernel_rfl) (by kernel_rfl) ?main
       case main =>
        simp only [List.take_succ_cons, List.take_zero]
        refine wpK_ops rfl (fun w1 hu => ?_) ?_
        · clear hu
          go_simp
          first | done | rfl
        simp only [Act.put, nm1, nm2, nm3, i64_w]
        refine wpK_ops rfl (fun w1 hu => ?_) ?_
        · clear hu
          go_simp
          first | done | rfl
        simp only [Act.put, nm1, nm2, nm3, i64_w]
        refine wpK_ops rfl (fun w1 hu => ?_) ?_
        · clear hu
          go_simp
          first | done | rfl
        simp only [Act.put, nm1, nm2, nm3, i64_w]
        refine wpK_no rfl ?_
        simp only [Act.put, nm1, nm2, nm3, i64_w]
        refine wpK_no rfl ?_
        simp only [Act.put, nm1, nm2, nm3, i64_w]
        refine wpK_no rfl ?_
        simp only [Act.put, nm1, nm2, nm3, i64_w]
        refine wpK_no rfl ?_
        simp only [Act.put, nm1, nm2, nm3, i64_w]
        refine wpK_no rfl ?_
        simp only [Act.put, nm1, nm2, nm3, i64_w]
        refine wpK_no rfl ?_
        simp only [Act.put, nm1, nm2, nm3, i64_w]
        refine wpK_no rfl ?_
        simp only [Act.put, nm1, nm2, nm3, i64_w]
        refine wpK_no rfl ?_
        simp only [Act.put, nm1, nm2, nm3, i64_w]
        refine wpK_no rfl ?_
        simp only [Act.put, nm1, nm2, nm3, i64_w]
        refine wpK_no rfl ?_
        simp only [Act.put, nm1, nm2, nm3, i64_w]
        refine wpK_no rfl ?_
        simp only [Act.put, nm1, nm2, nm3, i64_w]
        refine wpK_no rfl ?_
        simp only [Act.put, nm1, nm2, nm3, i64_w]
        refine wpK_ops rfl (fun w1 hu => ?_) ?_
        · clear hu
          go_simp
          first | done | rfl
        simp only [Act.put, nm1, nm2, nm3, i64_w]
        refine wpK_nil ?_
        intro w238 hu hap
        simp only [List.drop_succ_cons, List.drop_zero]
        replace hu := (Up.refl _).drew.trans hu
        clear hap
        have hu239 := Aside0.mk hu
        clear hu
        refine wpList_nil ?_
        (try simp only [Exit.then, Exit.inBlock, ↓reduceIte, Nat.reduceEqDiff])
        refine hK142 _ _ ?_
        refine wp_cond_false rfl ?_
        refine wp_exit ?_
        (try simp only [Exit.then, Exit.inBlock, ↓reduceIte, Nat.reduceEqDiff])
        refine hK121 _ _ ?_
        refine wp_region_lit ?_
        refine wpList_plain rfl (fun Ko hKo => ?_)
        go_simp
        refine hKo _ _ ?_
        clear hKo Ko
        try simp only [Act.put, nm1, nm2, nm3, i64_w]
        refine wpList_plain rfl (fun Ko hKo => ?_)
        go_simp
        refine hKo _ _ ?_
        clear hKo Ko
        try simp only [Act.put, nm1, nm2, nm3, i64_w]
        refine wpList_nil ?_
        (try simp only [Exit.then, Exit.inBlock, ↓reduceIte, Nat.reduceEqDiff])
        refine hK116 _ _ ?_
        go_roundg k136
        case measure => have := hk37.out; have := hk113.out; have := hk137.out; omega
        case rel => exact ⟨wrap64 (x100 + 1), x125, (by first | rfl | simp), HL240, ⟨by have := hk37.out; have := hk113.out; have := hk137.out; omega⟩, ⟨(hu127.out.trans hu239.out)⟩, ⟨(Nat.le_trans ((Nat.le_trans ((Nat.le_trans (Nat.le_refl _) hz104.out)) hz128.out)) hu239.out.size)⟩, (h130.up hu239.out), (h131.up hu239.out), ⟨hl132.out⟩, ⟨hn133.out⟩, ⟨hn134.out⟩, ⟨hn135.out⟩⟩
    ·
     rw [if_neg c119] at H
     replace c119 := Bool.eq_false_iff.mpr c119
     obtain rfl := Option.some.inj H
     try simp only [c119, Bool.not_true, Bool.not_false]
     refine wp_cond_false rfl ?_
     refine wp_exit ?_
     (try simp only [Exit.then, Exit.inBlock, ↓reduceIte, Nat.reduceEqDiff])
     refine hK98 _ _ ?_
     refine wp_seq_k (fun K241 hK241 => ?_)
     refine wp_region_lit ?_
     refine wpList_plain rfl (fun Ko hKo => ?_)
     go_simp
     refine hKo _ _ ?_
     clear hKo Ko
     try simp only [Act.put, nm1, nm2, nm3, i64_w]
     refine wpList_plain rfl (fun Ko hKo => ?_)
     go_simp
     refine hKo _ _ ?_
     clear hKo Ko
     try simp only [Act.put, nm1, nm2, nm3, i64_w]
     refine wpList_nil ?_
     (try simp only [Exit.then, Exit.inBlock, ↓reduceIte, Nat.reduceEqDiff])
     refine hK241 _ _ ?_
     refine wp_ret ?_
     (try simp only [Exit.then, Exit.inBlock, ↓reduceIte, Nat.reduceEqDiff])
     refine hQf _ _ _ ?_
     exact bodyPost_ret (v := .slice P25 x101.length q26) (by first | rfl | (simp [results, Try.results106, go_sem, hl108.out]; done) | (simp [results, Try.results106, go_sem, hl108.out]; rfl)) rfl ⟨P25, q26, rfl, (h107.lower ((Nat.le_trans (hu4.out.size) hu7.out.size))), ((hu4.out.trans hu7.out).trans hu103.out)⟩

set_option maxHeartbeats 40000000 in
set_option maxRecDepth 100000 in
theorem impl_MovesBetween.calls (K : Nat) (a0 : Int) (a1 : Int) (a2_0 : Int) (a2_1 : Int) (a3_0 : Int) (a3_1 : Int) (a4_0 : Int) (a4_1 : Int) (a5_0 : Int) (a5_1 : Int) (r0 : List (Int × Int × Int × Int × Int × Int)) (r1 : Int) (w : World)  (h : impl_MovesBetween.f K a0 a1 a2_0 a2_1 a3_0 a3_1 a4_0 a4_1 a5_0 a5_1 = some (r0, r1)) :
    Calls Try.prog 44 #[.int .i64 a0, .int .i64 a1, .agg #[.int .i64 a2_0, .int .i64 a2_1], .agg #[.int .i64 a3_0, .int .i64 a3_1], .agg #[.int .i64 a4_0, .int .i64 a4_1], .agg #[.int .i64 a5_0, .int .i64 a5_1]] w fun e w' => ∃ (Ar0 : Option Addr) (cr0 : Nat), e = .returned (.tuple #[.slice Ar0 r0.length cr0, .int .i64 r1]) ∧ Own e6 30 w' w.heap.size (.slice Ar0 r0.length cr0) r0 ∧ Up w w' := by
 have H : (((impl_asked__impl_MovesBetween_1.f K a0 a1 a0 a2_0 a2_1 a3_0 a3_1 a4_0 a4_1 a5_0 a5_1).bind fun t22 => (if (t22 == 0) = true then ((impl_quadrance.f K a0 a1 a2_0 a2_1 a3_0 a3_1).bind fun t34 => (if (t34 == 0) = true then some ([], 5) else ((impl_quadrance.f K a0 a1 a4_0 a4_1 a5_0 a5_1).bind fun t45 => (if (t34 == t45) = true then ((impl_less.f K a0 a3_0 a3_1 a2_0 a2_1).bind fun (t52, t53) => ((impl_less.f K a0 a5_0 a5_1 a4_0 a4_1).bind fun (t55, t56) => ((impl_movesWith__impl_MovesBetween_2.f K a0 a1 a2_0 a2_1 a4_0 a4_1 a0 t52 t53 t55 t56).bind fun t74 => some (t74, 0)))) else some ([], 5))))) else some ([], t22))) : Option (List (Int × Int × Int × Int × Int × Int) × Int)) = some (r0, r1) := h
 clear h
 replace H := Option.bind_eq_some_iff.mp H
 obtain ⟨t22, A23, H⟩ := H
 replace A23 := Aside0.mk A23
 try dsimp only at H
 go_enter Try.func44, Try.ntmps44
 refine wp_hide (fun Qf hQf => ?_)
 refine wp_seq_k (fun K1 hK1 => ?_)
 refine wp_region_lit ?_
 refine step_new (cs := [.int .i64 a0]) (T := 2) (f := fun b => .pointer (some ⟨b, 0, none⟩)) rfl (by first | (go_simp; done) | (go_simp; rfl)) ?_
 intro b2 w3 hu lb hb2
 simp only [Act.put, nm1, nm2, nm3, i64_w]
 have lbb2 := Aside0.mk lb
 have ltb2 := Aside0.mk hb2.lt
 clear lb
 have hu4 := Aside0.mk hu
 clear hu
 refine step_new (cs := [.int .i64 a1]) (T := 2) (f := fun b => .pointer (some ⟨b, 0, none⟩)) rfl (by first | (go_simp; done) | (go_simp; rfl)) ?_
 intro b5 w6 hu lb hb5
 simp only [Act.put, nm1, nm2, nm3, i64_w]
 have lbb5 := Aside0.mk lb
 have ltb5 := Aside0.mk hb5.lt
 clear lb
 have hu7 := Aside0.mk hu
 clear hu
 refine step_new (cs := [.int .i64 a2_0, .int .i64 a2_1]) (T := 26) (f := fun b => .pointer (some ⟨b, 0, none⟩)) rfl (by first | (go_simp; done) | (go_simp; rfl)) ?_
 intro b8 w9 hu lb hb8
 simp only [Act.put, nm1, nm2, nm3, i64_w]
 have lbb8 := Aside0.mk lb
 have ltb8 := Aside0.mk hb8.lt
 clear lb
 have hu10 := Aside0.mk hu
 clear hu
 refine step_new (cs := [.int .i64 a3_0, .int .i64 a3_1]) (T := 26) (f := fun b => .pointer (some ⟨b, 0, none⟩)) rfl (by first | (go_simp; done) | (go_simp; rfl)) ?_
 intro b11 w12 hu lb hb11
 simp only [Act.put, nm1, nm2, nm3, i64_w]
 have lbb11 := Aside0.mk lb
 have ltb11 := Aside0.mk hb11.lt
 clear lb
 have hu13 := Aside0.mk hu
 clear hu
 refine step_new (cs := [.int .i64 a4_0, .int .i64 a4_1]) (T := 26) (f := fun b => .pointer (some ⟨b, 0, none⟩)) rfl (by first | (go_simp; done) | (go_simp; rfl)) ?_
 intro b14 w15 hu lb hb14
 simp only [Act.put, nm1, nm2, nm3, i64_w]
 have lbb14 := Aside0.mk lb
 have ltb14 := Aside0.mk hb14.lt
 clear lb
 have hu16 := Aside0.mk hu
 clear hu
 refine step_new (cs := [.int .i64 a5_0, .int .i64 a5_1]) (T := 26) (f := fun b => .pointer (some ⟨b, 0, none⟩)) rfl (by first | (go_simp; done) | (go_simp; rfl)) ?_
 intro b17 w18 hu lb hb17
 simp only [Act.put, nm1, nm2, nm3, i64_w]
 have lbb17 := Aside0.mk lb
 have ltb17 := Aside0.mk hb17.lt
 clear lb
 have hu19 := Aside0.mk hu
 clear hu
 refine wpList_plain rfl (fun Ko hKo => ?_)
 go_simp
 refine hKo _ _ ?_
 clear hKo Ko
 try simp only [Act.put, nm1, nm2, nm3, i64_w]
 refine wpList_plain rfl (fun Ko hKo => ?_)
 go_simp
 refine hKo _ _ ?_
 clear hKo Ko
 try simp only [Act.put, nm1, nm2, nm3, i64_w]
 refine wpList_nil ?_
 (try simp only [Exit.then, Exit.inBlock, ↓reduceIte, Nat.reduceEqDiff])
 refine hK1 _ _ ?_
 refine wp_seq_k (fun K20 hK20 => ?_)
 refine wp_seq_k (fun K21 hK21 => ?_)
 refine wp_region_lit ?_
 have cl0 := (hb2.up ((((hu7.out.trans hu10.out).trans hu13.out).trans hu16.out).trans hu19.out)).cell (o := 0) rfl
 refine wpList_plain rfl (fun Ko hKo => ?_)
 go_simp
 refine hKo _ _ ?_
 clear hKo Ko
 clear cl0
 try simp only [Act.put, nm1, nm2, nm3, i64_w]
 refine wpList_plain rfl (fun Ko hKo => ?_)
 go_simp
 refine hKo _ _ ?_
 clear hKo Ko
 try simp only [Act.put, nm1, nm2, nm3, i64_w]
 refine step_call (wanted_none rfl) (by first | (go_simp; done) | (go_simp; rfl)) (impl_asked__impl_MovesBetween_1.calls K a0 b5 a1 b2 a0 b8 a2_0 a2_1 b11 a3_0 a3_1 b14 a4_0 a4_1 b17 a5_0 a5_1 t22 w18 (hb5.up (((hu10.out.trans hu13.out).trans hu16.out).trans hu19.out)) (hb2.up ((((hu7.out.trans hu10.out).trans hu13.out).trans hu16.out).trans hu19.out)) (hb8.up ((hu13.out.trans hu16.out).trans hu19.out)) (hb11.up (hu16.out.trans hu19.out)) (hb14.up hu19.out) hb17 A23.out) ?_
 rintro e w24 ⟨rfl, hu⟩
 have hu25 := Aside0.mk hu
 clear hu
 refine ⟨_, rfl, ?_⟩
 simp only [Act.put, nm1, nm2, nm3, i64_w]
 refine wpList_plain rfl (fun Ko hKo => ?_)
 go_simp
 refine hKo _ _ ?_
 clear hKo Ko
 try simp only [Act.put, nm1, nm2, nm3, i64_w]
 refine wpList_nil ?_
 (try simp only [Exit.then, Exit.inBlock, ↓reduceIte, Nat.reduceEqDiff])
 refine hK21 _ _ ?_
 refine wp_seq_k (fun K26 hK26 => ?_)
 refine wp_region_lit ?_
 refine wpList_plain rfl (fun Ko hKo => ?_)
 go_simp
 refine hKo _ _ ?_
 clear hKo Ko
 try simp only [Act.put, nm1, nm2, nm3, i64_w]
 refine wpList_plain rfl (fun Ko hKo => ?_)
 go_simp
 refine hKo _ _ ?_
 clear hKo Ko
 try simp only [Act.put, nm1, nm2, nm3, i64_w]
 refine wpList_nil ?_
 (try simp only [Exit.then, Exit.inBlock, ↓reduceIte, Nat.reduceEqDiff])
 refine hK26 _ _ ?_
 have hm28 := Aside0.mk ((((((hu4.out.trans hu7.out).trans hu10.out).trans hu13.out).trans hu16.out).trans hu19.out).trans hu25.out)
 have hm29 := Aside0.mk (Nat.le_trans ((Nat.le_trans ((Nat.le_trans ((Nat.le_trans ((Nat.le_trans ((Nat.le_trans (hu4.out.size) hu7.out.size)) hu10.out.size)) hu13.out.size)) hu16.out.size)) hu19.out.size)) hu25.out.size)
 have h30 := (hb2.up (((((hu7.out.trans hu10.out).trans hu13.out).trans hu16.out).trans hu19.out).trans hu25.out))
 have h31 := (hb5.up ((((hu10.out.trans hu13.out).trans hu16.out).trans hu19.out).trans hu25.out))
 have h32 := (hb8.up (((hu13.out.trans hu16.out).trans hu19.out).trans hu25.out))
 by_cases c27 : (t22 == 0) = true
 ·
  rw [if_pos c27] at H
  have c27n : (t22 != 0) = false := by rw [bne, c27]; rfl
  replace H := Option.bind_eq_some_iff.mp H
  obtain ⟨t34, A35, H⟩ := H
  replace A35 := Aside0.mk A35
  try dsimp only at H
  try simp only [c27, c27n, Bool.not_true, Bool.not_false]
  refine wp_cond_false rfl ?_
  refine wp_skip ?_
  (try simp only [Exit.then, Exit.inBlock, ↓reduceIte, Nat.reduceEqDiff])
  refine hK20 _ _ ?_
  refine wp_seq_k (fun K33 hK33 => ?_)
  refine wp_region_lit ?_
  have cl0 := h30.cell (o := 0) rfl
  refine wpList_plain rfl (fun Ko hKo => ?_)
  go_simp
  refine hKo _ _ ?_
  clear hKo Ko
  clear cl0
  try simp only [Act.put, nm1, nm2, nm3, i64_w]
  have cl0 := h31.cell (o := 0) rfl
  refine wpList_plain rfl (fun Ko hKo => ?_)
  go_simp
  refine hKo _ _ ?_
  clear hKo Ko
  clear cl0
  try simp only [Act.put, nm1, nm2, nm3, i64_w]
  have cl0 := h32.cell (o := 0) rfl
  have cl1 := h32.cell (o := 1) rfl
  refine wpList_plain rfl (fun Ko hKo => ?_)
  go_simp
  refine hKo _ _ ?_
  clear hKo Ko
  clear cl0 cl1
  try simp only [Act.put, nm1, nm2, nm3, i64_w]
  have cl0 := (hb11.up ((hu16.out.trans hu19.out).trans hu25.out)).cell (o := 0) rfl
  have cl1 := (hb11.up ((hu16.out.trans hu19.out).trans hu25.out)).cell (o := 1) rfl
  refine wpList_plain rfl (fun Ko hKo => ?_)
  go_simp
  refine hKo _ _ ?_
  clear hKo Ko
  clear cl0 cl1
  try simp only [Act.put, nm1, nm2, nm3, i64_w]
  refine step_call (wanted_none rfl) (by first | (go_simp; done) | (go_simp; rfl)) (impl_quadrance.calls K a0 a1 a2_0 a2_1 a3_0 a3_1 t34 w24  A35.out) ?_
  rintro e w36 ⟨rfl, hu⟩
  have hu37 := Aside0.mk hu
  clear hu
  refine ⟨_, rfl, ?_⟩
  simp only [Act.put, nm1, nm2, nm3, i64_w]
  refine wpList_plain rfl (fun Ko hKo => ?_)
  go_simp
  refine hKo _ _ ?_
  clear hKo Ko
  try simp only [Act.put, nm1, nm2, nm3, i64_w]
  refine wpList_nil ?_
  (try simp only [Exit.then, Exit.inBlock, ↓reduceIte, Nat.reduceEqDiff])
  refine hK33 _ _ ?_
  refine wp_seq_k (fun K38 hK38 => ?_)
  refine wp_seq_k (fun K39 hK39 => ?_)
  refine wp_region_lit ?_
  refine wpList_plain rfl (fun Ko hKo => ?_)
  go_simp
  refine hKo _ _ ?_
  clear hKo Ko
  try simp only [Act.put, nm1, nm2, nm3, i64_w]
  refine wpList_plain rfl (fun Ko hKo => ?_)
  go_simp
  refine hKo _ _ ?_
  clear hKo Ko
  try simp only [Act.put, nm1, nm2, nm3, i64_w]
  refine wpList_plain rfl (fun Ko hKo => ?_)
  go_simp
  refine hKo _ _ ?_
  clear hKo Ko
  try simp only [Act.put, nm1, nm2, nm3, i64_w]
  have h41 := (hb11.up (((hu16.out.trans hu19.out).trans hu25.out).trans hu37.out))
  by_cases c40 : (t34 == 0) = true
  ·
   rw [if_pos c40] at H
   have c40n : (t34 != 0) = false := by rw [bne, c40]; rfl
   simp only [Option.some.injEq, Prod.mk.injEq] at H
   obtain ⟨rfl, rfl⟩ := H
   try simp only [c40, c40n, Bool.not_true, Bool.not_false]
   refine step_no rfl ?_
   simp only [Act.put, nm1, nm2, nm3, i64_w]
   refine step_no rfl ?_
   simp only [Act.put, nm1, nm2, nm3, i64_w]
   refine step_no rfl ?_
   simp only [Act.put, nm1, nm2, nm3, i64_w]
   refine step_no rfl ?_
   simp only [Act.put, nm1, nm2, nm3, i64_w]
   refine step_no rfl ?_
   simp only [Act.put, nm1, nm2, nm3, i64_w]
   refine step_no rfl ?_
   simp only [Act.put, nm1, nm2, nm3, i64_w]
   refine step_no rfl ?_
   simp only [Act.put, nm1, nm2, nm3, i64_w]
   refine wpList_plain rfl (fun Ko hKo => ?_)
   go_simp
   refine hKo _ _ ?_
   clear hKo Ko
   try simp only [Act.put, nm1, nm2, nm3, i64_w]
   refine wpList_nil ?_
   (try simp only [Exit.then, Exit.inBlock, ↓reduceIte, Nat.reduceEqDiff])
   refine hK39 _ _ ?_
   refine wp_cond_true rfl ?_
   refine wp_seq_k (fun K42 hK42 => ?_)
   refine wp_region_lit ?_
   refine wpList_plain rfl (fun Ko hKo => ?_)
   go_simp
   refine hKo _ _ ?_
   clear hKo Ko
   try simp only [Act.put, nm1, nm2, nm3, i64_w]
   refine wpList_plain rfl (fun Ko hKo => ?_)
   go_simp
   refine hKo _ _ ?_
   clear hKo Ko
   try simp only [Act.put, nm1, nm2, nm3, i64_w]
   refine wpList_nil ?_
   (try simp only [Exit.then, Exit.inBlock, ↓reduceIte, Nat.reduceEqDiff])
   refine hK42 _ _ ?_
   refine wp_ret ?_
   have h44 : Own e6 30 w36 w36.heap.size (.slice none ([] : List (Int × Int × Int × Int × Int × Int)).length 0) [] := Own.nil
   (try simp only [Exit.then, Exit.inBlock, ↓reduceIte, Nat.reduceEqDiff])
   refine hQf _ _ _ ?_
   exact bodyPost_ret (v := .tuple #[.slice none 0 0, .int .i64 5]) (by first | rfl | (simp [results, Try.results44, go_sem]; done) | (simp [results, Try.results44, go_sem]; rfl)) rfl ⟨none, 0, rfl, (h44.lower ((Nat.le_trans (hm29.out) hu37.out.size))), (hm28.out.trans hu37.out)⟩
  ·
   rw [if_neg c40] at H
   replace c40 := Bool.eq_false_iff.mpr c40
   have c40n : (t34 != 0) = true := by rw [bne, c40]; rfl
   have c40p : ¬ t34 = 0 := fun e => by simp [e] at c40
   replace H := Option.bind_eq_some_iff.mp H
   obtain ⟨t45, A46, H⟩ := H
   replace A46 := Aside0.mk A46
   try dsimp only at H
   try simp only [c40, c40n, Bool.not_true, Bool.not_false]
   refine wpList_step (fun Ko hKo => ?_)
   go_simp
   refine hKo _ _ ?_
   clear hKo Ko
   try simp only [Act.put, nm1, nm2, nm3, i64_w]
   have cl0 := (h30.up hu37.out).cell (o := 0) rfl
   refine wpList_step (fun Ko hKo => ?_)
   go_simp
   refine hKo _ _ ?_
   clear hKo Ko
   clear cl0
   try simp only [Act.put, nm1, nm2, nm3, i64_w]
   have cl0 := (h31.up hu37.out).cell (o := 0) rfl
   refine wpList_step (fun Ko hKo => ?_)
   go_simp
   refine hKo _ _ ?_
   clear hKo Ko
   clear cl0
   try simp only [Act.put, nm1, nm2, nm3, i64_w]
   have cl0 := (hb14.up ((hu19.out.trans hu25.out).trans hu37.out)).cell (o := 0) rfl
   have cl1 := (hb14.up ((hu19.out.trans hu25.out).trans hu37.out)).cell (o := 1) rfl
   refine wpList_step (fun Ko hKo => ?_)
   go_simp
   refine hKo _ _ ?_
   clear hKo Ko
   clear cl0 cl1
   try simp only [Act.put, nm1, nm2, nm3, i64_w]
   have cl0 := (hb17.up (hu25.out.trans hu37.out)).cell (o := 0) rfl
   have cl1 := (hb17.up (hu25.out.trans hu37.out)).cell (o := 1) rfl
   refine wpList_step (fun Ko hKo => ?_)
   go_simp
   refine hKo _ _ ?_
   clear hKo Ko
   clear cl0 cl1
   try simp only [Act.put, nm1, nm2, nm3, i64_w]
   refine step_call rfl (by first | (go_simp; done) | (go_simp; rfl)) (impl_quadrance.calls K a0 a1 a4_0 a4_1 a5_0 a5_1 t45 w36  A46.out) ?_
   rintro e w47 ⟨rfl, hu⟩
   have hu48 := Aside0.mk hu
   clear hu
   refine ⟨_, rfl, ?_⟩
   simp only [Act.put, nm1, nm2, nm3, i64_w]
   refine wpList_step (fun Ko hKo => ?_)
   go_simp
   refine hKo _ _ ?_
   clear hKo Ko
   try simp only [Act.put, nm1, nm2, nm3, i64_w]
   refine wpList_plain rfl (fun Ko hKo => ?_)
   go_simp
   refine hKo _ _ ?_
   clear hKo Ko
   try simp only [Act.put, nm1, nm2, nm3, i64_w]
   refine wpList_nil ?_
   (try simp only [Exit.then, Exit.inBlock, ↓reduceIte, Nat.reduceEqDiff])
   refine hK39 _ _ ?_
   have h50 := (hb14.up (((hu19.out.trans hu25.out).trans hu37.out).trans hu48.out))
   by_cases c49 : (t34 == t45) = true
   ·
    rw [if_pos c49] at H
    have c49n : (t34 != t45) = false := by rw [bne, c49]; rfl
    replace H := Option.bind_eq_some_iff.mp H
    obtain ⟨⟨t52, t53⟩, A54, H⟩ := H
    replace A54 := Aside0.mk A54
    try dsimp only at H
    replace H := Option.bind_eq_some_iff.mp H
    obtain ⟨⟨t55, t56⟩, A57, H⟩ := H
    replace A57 := Aside0.mk A57
    try dsimp only at H
    replace H := Option.bind_eq_some_iff.mp H
    obtain ⟨t74, A77, H⟩ := H
    replace A77 := Aside0.mk A77
    try dsimp only at H
    simp only [Option.some.injEq, Prod.mk.injEq] at H
    obtain ⟨rfl, rfl⟩ := H
    try simp only [c49, c49n, Bool.not_true, Bool.not_false]
    refine wp_cond_false rfl ?_
    refine wp_skip ?_
    (try simp only [Exit.then, Exit.inBlock, ↓reduceIte, Nat.reduceEqDiff])
    refine hK38 _ _ ?_
    refine wp_seq_k (fun K51 hK51 => ?_)
    refine' wp_region_up 10 [Slot.det _, Slot.det _, Slot.det _, Slot.det (.agg #[.int .i64 t52, .int .i64 t53]), Slot.det _, Slot.det _, Slot.det _, Slot.det (.agg #[.int .i64 t55, .int .i64 t56]), Slot.any (PtrTo [.int .i64 0, .int .i64 0] 26) true, Slot.any (PtrTo [.int .i64 0, .int .i64 0] 26) true] (by kernel_rfl) (by kernel_rfl) ?main
    case main =>
     simp only [List.take_succ_cons, List.take_zero]
     refine wpK_ops rfl (fun w1 hu => ?_) ?_
     · have cl0 := ((h30.up (hu37.out.trans hu48.out)).up ((Up.refl _).drew.trans hu)).cell (o := 0) rfl
       go_simp
       first | done | rfl
     simp only [Act.put, nm1, nm2, nm3, i64_w]
     refine wpK_ops rfl (fun w1 hu => ?_) ?_
     · have cl0 := ((h41.up hu48.out).up ((Up.refl _).drew.trans hu)).cell (o := 0) rfl
       have cl1 := ((h41.up hu48.out).up ((Up.refl _).drew.trans hu)).cell (o := 1) rfl
       go_simp
       first | done | rfl
     simp only [Act.put, nm1, nm2, nm3, i64_w]
     refine wpK_ops rfl (fun w1 hu => ?_) ?_
     · have cl0 := ((h32.up (hu37.out.trans hu48.out)).up ((Up.refl _).drew.trans hu)).cell (o := 0) rfl
       have cl1 := ((h32.up (hu37.out.trans hu48.out)).up ((Up.refl _).drew.trans hu)).cell (o := 1) rfl
       go_simp
       first | done | rfl
     simp only [Act.put, nm1, nm2, nm3, i64_w]
     refine wpK_ops rfl (fun w1 hu => ?_) ?_
     · have hcl := (impl_less.calls K a0 a3_0 a3_1 a2_0 a2_1 t52 t53 w1  A54.out)
       clear hu
       replace hcl := Aside0.mk hcl
       go_simp
       exact hcl.out
     simp only [Act.put, nm1, nm2, nm3, i64_w]
     refine wpK_ops rfl (fun w1 hu => ?_) ?_
     · have cl0 := ((h30.up (hu37.out.trans hu48.out)).up ((Up.refl _).drew.trans hu)).cell (o := 0) rfl
       go_simp
       first | done | rfl
     simp only [Act.put, nm1, nm2, nm3, i64_w]
     refine wpK_ops rfl (fun w1 hu => ?_) ?_
     · have cl0 := ((hb17.up ((hu25.out.trans hu37.out).trans hu48.out)).up ((Up.refl _).drew.trans hu)).cell (o := 0) rfl
       have cl1 := ((hb17.up ((hu25.out.trans hu37.out).trans hu48.out)).up ((Up.refl _).drew.trans hu)).cell (o := 1) rfl
       go_simp
       first | done | rfl
     simp only [Act.put, nm1, nm2, nm3, i64_w]
     refine wpK_ops rfl (fun w1 hu => ?_) ?_
     · have cl0 := (h50.up ((Up.refl _).drew.trans hu)).cell (o := 0) rfl
       have cl1 := (h50.up ((Up.refl _).drew.trans hu)).cell (o := 1) rfl
       go_simp
       first | done | rfl
     simp only [Act.put, nm1, nm2, nm3, i64_w]
     refine wpK_ops rfl (fun w1 hu => ?_) ?_
     · have hcl := (impl_less.calls K a0 a5_0 a5_1 a4_0 a4_1 t55 t56 w1  A57.out)
       clear hu
       replace hcl := Aside0.mk hcl
       go_simp
       exact hcl.out
     simp only [Act.put, nm1, nm2, nm3, i64_w]
     refine wpK_any rfl (stab_ptr _ _) (fun w1 _ _ => fresh_ptr (by first | (go_simp; done) | (go_simp; rfl))) (fun v58 => ?_)
     simp only [Act.put, nm1, nm2, nm3, i64_w]
     refine wpK_any rfl (stab_ptr _ _) (fun w1 _ _ => fresh_ptr (by first | (go_simp; done) | (go_simp; rfl))) (fun v60 => ?_)
     simp only [Act.put, nm1, nm2, nm3, i64_w]
     refine wpK_nil ?_
     intro w62 hu hap
     simp only [List.drop_succ_cons, List.drop_zero]
     replace hu := (Up.refl _).drew.trans hu
     obtain ⟨hf0, hn0, ⟨b61, e0, hb61⟩, hf1, hn1, ⟨b59, e1, hb59⟩, -⟩ := hap
     have lbb61 := Aside0.mk (hf0 rfl b61 (by rw [e0]; rfl)).1
     have ltb61 := Aside0.mk hb61.lt
     have lbb59 := Aside0.mk (hf1 rfl b59 (by rw [e1]; rfl)).1
     have ltb59 := Aside0.mk hb59.lt
     have ne63 := Aside0.mk (hn0 _ (.head _) rfl rfl b61 b59 (by rw [e0]; rfl) (by rw [e1]; rfl)).symm
     dsimp only at e0 e1
     subst e0 e1
     clear hf0 hn0 hf1 hn1
     have hu64 := Aside0.mk hu
     clear hu
     have hB0 := hb59
     have cl0 := hB0.cell (o := 0) rfl
     have fr0 := hB0.free 0
     have cl1 := hB0.cell (o := 1) rfl
     have fr1 := hB0.free 1
     refine step_store (b := b59) (cs' := [.int .i64 t52, .int .i64 t53]) (T := 26) (W' := ((w62.setCell ⟨b59, 0, none⟩ (.int .i64 t52)).setCell ⟨b59, 1, none⟩ (.int .i64 t53))) rfl rfl (by first | (go_simp; done) | (go_simp; rfl)) (((Sto.refl _ _).setCell 0 _).setCell 1 _) (((hB0).setCell 0 _).setCell 1 _) ?_
     clear hB0 cl0 fr0 cl1 fr1
     intro w65 hs hb67
     have hs66 := Aside0.mk hs
     clear hs
     have h68 := hb61.sto hs66.out (Ne.symm (ne63.out))
     have hB0 := h68
     have cl0 := hB0.cell (o := 0) rfl
     have fr0 := hB0.free 0
     have cl1 := hB0.cell (o := 1) rfl
     have fr1 := hB0.free 1
     refine step_store (b := b61) (cs' := [.int .i64 t55, .int .i64 t56]) (T := 26) (W' := ((w65.setCell ⟨b61, 0, none⟩ (.int .i64 t55)).setCell ⟨b61, 1, none⟩ (.int .i64 t56))) rfl rfl (by first | (go_simp; done) | (go_simp; rfl)) (((Sto.refl _ _).setCell 0 _).setCell 1 _) (((hB0).setCell 0 _).setCell 1 _) ?_
     clear hB0 cl0 fr0 cl1 fr1
     intro w69 hs hb71
     have hs70 := Aside0.mk hs
     clear hs
     have h72 := hb67.sto hs70.out ne63.out
     refine wpList_nil ?_
     (try simp only [Exit.then, Exit.inBlock, ↓reduceIte, Nat.reduceEqDiff])
     refine hK51 _ _ ?_
     refine wp_seq_k (fun K73 hK73 => ?_)
     refine wp_region_lit ?_
     have cl0 := (h30.up ((((hu37.out.trans hu48.out).trans hu64.out).sto (Nat.le_trans ((Nat.le_trans (hu37.out.size) hu48.out.size)) lbb59.out) hs66.out).sto (Nat.le_trans ((Nat.le_trans (hu37.out.size) hu48.out.size)) lbb61.out) hs70.out)).cell (o := 0) rfl
     refine wpList_plain rfl (fun Ko hKo => ?_)
     go_simp
     refine hKo _ _ ?_
     clear hKo Ko
     clear cl0
     try simp only [Act.put, nm1, nm2, nm3, i64_w]
     have cl0 := (h31.up ((((hu37.out.trans hu48.out).trans hu64.out).sto (Nat.le_trans ((Nat.le_trans (hu37.out.size) hu48.out.size)) lbb59.out) hs66.out).sto (Nat.le_trans ((Nat.le_trans (hu37.out.size) hu48.out.size)) lbb61.out) hs70.out)).cell (o := 0) rfl
     refine wpList_plain rfl (fun Ko hKo => ?_)
     go_simp
     refine hKo _ _ ?_
     clear hKo Ko
     clear cl0
     try simp only [Act.put, nm1, nm2, nm3, i64_w]
     have cl0 := (h32.up ((((hu37.out.trans hu48.out).trans hu64.out).sto (Nat.le_trans ((Nat.le_trans (hu37.out.size) hu48.out.size)) lbb59.out) hs66.out).sto (Nat.le_trans ((Nat.le_trans (hu37.out.size) hu48.out.size)) lbb61.out) hs70.out)).cell (o := 0) rfl
     have cl1 := (h32.up ((((hu37.out.trans hu48.out).trans hu64.out).sto (Nat.le_trans ((Nat.le_trans (hu37.out.size) hu48.out.size)) lbb59.out) hs66.out).sto (Nat.le_trans ((Nat.le_trans (hu37.out.size) hu48.out.size)) lbb61.out) hs70.out)).cell (o := 1) rfl
     refine wpList_plain rfl (fun Ko hKo => ?_)
     go_simp
     refine hKo _ _ ?_
     clear hKo Ko
     clear cl0 cl1
     try simp only [Act.put, nm1, nm2, nm3, i64_w]
     have cl0 := (h50.up ((hu64.out.sto (Nat.le_trans (Nat.le_refl _) lbb59.out) hs66.out).sto (Nat.le_trans (Nat.le_refl _) lbb61.out) hs70.out)).cell (o := 0) rfl
     have cl1 := (h50.up ((hu64.out.sto (Nat.le_trans (Nat.le_refl _) lbb59.out) hs66.out).sto (Nat.le_trans (Nat.le_refl _) lbb61.out) hs70.out)).cell (o := 1) rfl
     refine wpList_plain rfl (fun Ko hKo => ?_)
     go_simp
     refine hKo _ _ ?_
     clear hKo Ko
     clear cl0 cl1
     try simp only [Act.put, nm1, nm2, nm3, i64_w]
     refine wpList_plain rfl (fun Ko hKo => ?_)
     go_simp
     refine hKo _ _ ?_
     clear hKo Ko
     try simp only [Act.put, nm1, nm2, nm3, i64_w]
     refine step_call (wanted_none rfl) (by first | (go_simp; done) | (go_simp; rfl)) (impl_movesWith__impl_MovesBetween_2.calls K a0 a1 a2_0 a2_1 a4_0 a4_1 b2 a0 b59 t52 t53 b61 t55 t56 t74 w69 (h30.up ((((hu37.out.trans hu48.out).trans hu64.out).sto (Nat.le_trans ((Nat.le_trans (hu37.out.size) hu48.out.size)) lbb59.out) hs66.out).sto (Nat.le_trans ((Nat.le_trans (hu37.out.size) hu48.out.size)) lbb61.out) hs70.out)) h72 hb71 A77.out) ?_
     rintro e w78 ⟨P75, q76, rfl, ht74, hu⟩
     have hu79 := Aside0.mk hu
     clear hu
     refine ⟨_, rfl, ?_⟩
     simp only [Act.put, nm1, nm2, nm3, i64_w]
     refine wpList_plain rfl (fun Ko hKo => ?_)
     go_simp
     refine hKo _ _ ?_
     clear hKo Ko
     try simp only [Act.put, nm1, nm2, nm3, i64_w]
     refine wpList_plain rfl (fun Ko hKo => ?_)
     go_simp
     refine hKo _ _ ?_
     clear hKo Ko
     try simp only [Act.put, nm1, nm2, nm3, i64_w]
     refine wpList_nil ?_
     (try simp only [Exit.then, Exit.inBlock, ↓reduceIte, Nat.reduceEqDiff])
     refine hK73 _ _ ?_
     refine wp_ret ?_
     (try simp only [Exit.then, Exit.inBlock, ↓reduceIte, Nat.reduceEqDiff])
     refine hQf _ _ _ ?_
     exact bodyPost_ret (v := .tuple #[.slice P75 t74.length q76, .int .i64 0]) (by first | rfl | (simp [results, Try.results44, go_sem]; done) | (simp [results, Try.results44, go_sem]; rfl)) rfl ⟨P75, q76, rfl, (ht74.lower ((Nat.le_trans ((Nat.le_trans ((Nat.le_trans ((Nat.le_trans ((Nat.le_trans (hm29.out) hu37.out.size)) hu48.out.size)) hu64.out.size)) (Nat.le_of_eq hs66.out.size.symm))) (Nat.le_of_eq hs70.out.size.symm)))), ((((((hm28.out.trans hu37.out).trans hu48.out).trans hu64.out).sto (Nat.le_trans ((Nat.le_trans ((Nat.le_trans (hm29.out) hu37.out.size)) hu48.out.size)) lbb59.out) hs66.out).sto (Nat.le_trans ((Nat.le_trans ((Nat.le_trans (hm29.out) hu37.out.size)) hu48.out.size)) lbb61.out) hs70.out).trans hu79.out)⟩
   ·
    rw [if_neg c49] at H
    replace c49 := Bool.eq_false_iff.mpr c49
    have c49n : (t34 != t45) = true := by rw [bne, c49]; rfl
    have c49p : ¬ t34 = t45 := fun e => by simp [e] at c49
    simp only [Option.some.injEq, Prod.mk.injEq] at H
    obtain ⟨rfl, rfl⟩ := H
    try simp only [c49, c49n, Bool.not_true, Bool.not_false]
    refine wp_cond_true rfl ?_
    refine wp_seq_k (fun K80 hK80 => ?_)
    refine wp_region_lit ?_
    refine wpList_plain rfl (fun Ko hKo => ?_)
    go_simp
    refine hKo _ _ ?_
    clear hKo Ko
    try simp only [Act.put, nm1, nm2, nm3, i64_w]
    refine wpList_plain rfl (fun Ko hKo => ?_)
    go_simp
    refine hKo _ _ ?_
    clear hKo Ko
    try simp only [Act.put, nm1, nm2, nm3, i64_w]
    refine wpList_nil ?_
    (try simp only [Exit.then, Exit.inBlock, ↓reduceIte, Nat.reduceEqDiff])
    refine hK80 _ _ ?_
    refine wp_ret ?_
    have h82 : Own e6 30 w47 w47.heap.size (.slice none ([] : List (Int × Int × Int × Int × Int × Int)).length 0) [] := Own.nil
    (try simp only [Exit.then, Exit.inBlock, ↓reduceIte, Nat.reduceEqDiff])
    refine hQf _ _ _ ?_
    exact bodyPost_ret (v := .tuple #[.slice none 0 0, .int .i64 5]) (by first | rfl | (simp [results, Try.results44, go_sem]; done) | (simp [results, Try.results44, go_sem]; rfl)) rfl ⟨none, 0, rfl, (h82.lower ((Nat.le_trans ((Nat.le_trans (hm29.out) hu37.out.size)) hu48.out.size))), ((hm28.out.trans hu37.out).trans hu48.out)⟩
 ·
  rw [if_neg c27] at H
  replace c27 := Bool.eq_false_iff.mpr c27
  have c27n : (t22 != 0) = true := by rw [bne, c27]; rfl
  have c27p : ¬ t22 = 0 := fun e => by simp [e] at c27
  simp only [Option.some.injEq, Prod.mk.injEq] at H
  obtain ⟨rfl, rfl⟩ := H
  try simp only [c27, c27n, Bool.not_true, Bool.not_false]
  refine wp_cond_true rfl ?_
  refine wp_seq_k (fun K83 hK83 => ?_)
  refine wp_region_lit ?_
  refine wpList_plain rfl (fun Ko hKo => ?_)
  go_simp
  refine hKo _ _ ?_
  clear hKo Ko
  try simp only [Act.put, nm1, nm2, nm3, i64_w]
  refine wpList_plain rfl (fun Ko hKo => ?_)
  go_simp
  refine hKo _ _ ?_
  clear hKo Ko
  try simp only [Act.put, nm1, nm2, nm3, i64_w]
  refine wpList_plain rfl (fun Ko hKo => ?_)
  go_simp
  refine hKo _ _ ?_
  clear hKo Ko
  try simp only [Act.put, nm1, nm2, nm3, i64_w]
  refine wpList_nil ?_
  (try simp only [Exit.then, Exit.inBlock, ↓reduceIte, Nat.reduceEqDiff])
  refine hK83 _ _ ?_
  refine wp_ret ?_
  have h85 : Own e6 30 w24 w24.heap.size (.slice none ([] : List (Int × Int × Int × Int × Int × Int)).length 0) [] := Own.nil
  (try simp only [Exit.then, Exit.inBlock, ↓reduceIte, Nat.reduceEqDiff])
  refine hQf _ _ _ ?_
  exact bodyPost_ret (v := .tuple #[.slice none 0 0, .int .i64 t22]) (by first | rfl | (simp [results, Try.results44, go_sem]; done) | (simp [results, Try.results44, go_sem]; rfl)) rfl ⟨none, 0, rfl, (h85.lower (hm29.out)), hm28.out⟩

set_option maxHeartbeats 40000000 in
set_option maxRecDepth 100000 in
theorem laws_eqInt64A4.calls (K : Nat) (a0_0 : Int) (a0_1 : Int) (a0_2 : Int) (a0_3 : Int) (a1_0 : Int) (a1_1 : Int) (a1_2 : Int) (a1_3 : Int) (r0 : Bool) (w : World)  (h : laws_eqInt64A4.f K a0_0 a0_1 a0_2 a0_3 a1_0 a1_1 a1_2 a1_3 = some (r0)) :
    Calls Try.prog 61 #[.agg #[.int .i64 a0_0, .int .i64 a0_1, .int .i64 a0_2, .int .i64 a0_3], .agg #[.int .i64 a1_0, .int .i64 a1_1, .int .i64 a1_2, .int .i64 a1_3]] w fun e w' => e = .returned (.bool r0) ∧ Up w w' := by
 have H : ((if (a0_0 == a1_0) = true then (if (a0_1 == a1_1) = true then (if (a0_2 == a1_2) = true then (if (a0_3 == a1_3) = true then some true else some false) else some false) else some false) else some false) : Option (Bool)) = some (r0) := h
 clear h
 go_enter Try.func61, Try.ntmps61
 refine wp_hide (fun Qf hQf => ?_)
 refine wp_seq_k (fun K1 hK1 => ?_)
 refine wp_region_lit ?_
 refine step_new (cs := [.int .i64 a0_0, .int .i64 a0_1, .int .i64 a0_2, .int .i64 a0_3]) (T := 22) (f := fun b => .pointer (some ⟨b, 0, none⟩)) rfl (by first | (go_simp; done) | (go_simp; rfl)) ?_
 intro b2 w3 hu lb hb2
 simp only [Act.put, nm1, nm2, nm3, i64_w]
 have lbb2 := Aside0.mk lb
 have ltb2 := Aside0.mk hb2.lt
 clear lb
 have hu4 := Aside0.mk hu
 clear hu
 refine step_new (cs := [.int .i64 a1_0, .int .i64 a1_1, .int .i64 a1_2, .int .i64 a1_3]) (T := 22) (f := fun b => .pointer (some ⟨b, 0, none⟩)) rfl (by first | (go_simp; done) | (go_simp; rfl)) ?_
 intro b5 w6 hu lb hb5
 simp only [Act.put, nm1, nm2, nm3, i64_w]
 have lbb5 := Aside0.mk lb
 have ltb5 := Aside0.mk hb5.lt
 clear lb
 have hu7 := Aside0.mk hu
 clear hu
 refine wpList_plain rfl (fun Ko hKo => ?_)
 go_simp
 refine hKo _ _ ?_
 clear hKo Ko
 try simp only [Act.put, nm1, nm2, nm3, i64_w]
 refine wpList_nil ?_
 (try simp only [Exit.then, Exit.inBlock, ↓reduceIte, Nat.reduceEqDiff])
 refine hK1 _ _ ?_
 refine wp_seq_k (fun K8 hK8 => ?_)
 refine wp_seq_k (fun K9 hK9 => ?_)
 refine wp_region_lit ?_
 refine wpList_plain rfl (fun Ko hKo => ?_)
 go_simp
 refine hKo _ _ ?_
 clear hKo Ko
 try simp only [Act.put, nm1, nm2, nm3, i64_w]
 refine wpList_nil ?_
 (try simp only [Exit.then, Exit.inBlock, ↓reduceIte, Nat.reduceEqDiff])
 refine hK9 _ _ ?_
 refine wp_block ?_
 refine wp_loop_rounds 40 ?_
 refine rounds_k (fun K10 hK10 => ?_)
 refine wp_seq_k (fun K11 hK11 => ?_)
 refine wp_seq_k (fun K12 hK12 => ?_)
 refine wp_region_lit ?_
 refine wpList_plain rfl (fun Ko hKo => ?_)
 go_simp
 refine hKo _ _ ?_
 clear hKo Ko
 try simp only [Act.put, nm1, nm2, nm3, i64_w]
 refine wpList_plain rfl (fun Ko hKo => ?_)
 go_simp
 refine hKo _ _ ?_
 clear hKo Ko
 try simp only [Act.put, nm1, nm2, nm3, i64_w]
 refine wpList_nil ?_
 (try simp only [Exit.then, Exit.inBlock, ↓reduceIte, Nat.reduceEqDiff])
 refine hK12 _ _ ?_
 refine wp_cond_true rfl ?_
 refine wp_skip ?_
 (try simp only [Exit.then, Exit.inBlock, ↓reduceIte, Nat.reduceEqDiff])
 refine hK11 _ _ ?_
 refine wp_seq_k (fun K13 hK13 => ?_)
 refine wp_block ?_
 refine wp_seq_k (fun K14 hK14 => ?_)
 refine' wp_region_up 7 [Slot.det _, Slot.det _, Slot.det _, Slot.det _, Slot.det _, Slot.det _, Slot.det _] (by kernel_rfl) (by kernel_rfl) ?main
 case main =>
  simp only [List.take_succ_cons, List.take_zero]
  refine wpK_ops rfl (fun w1 hu => ?_) ?_
  · clear hu
    go_simp
    first | done | rfl
  simp only [Act.put, nm1, nm2, nm3, i64_w]
  refine wpK_ops rfl (fun w1 hu => ?_) ?_
  · clear hu
    go_simp
    first | done | rfl
  simp only [Act.put, nm1, nm2, nm3, i64_w]
  refine wpK_ops rfl (fun w1 hu => ?_) ?_
  · have cl0 := ((hb2.up hu7.out).up ((Up.refl _).drew.trans hu)).cell (o := 0) rfl
    go_simp
    first | done | rfl
  simp only [Act.put, nm1, nm2, nm3, i64_w]
  refine wpK_ops rfl (fun w1 hu => ?_) ?_
  · clear hu
    go_simp
    first | done | rfl
  simp only [Act.put, nm1, nm2, nm3, i64_w]
  refine wpK_ops rfl (fun w1 hu => ?_) ?_
  · clear hu
    go_simp
    first | done | rfl
  simp only [Act.put, nm1, nm2, nm3, i64_w]
  refine wpK_ops rfl (fun w1 hu => ?_) ?_
  · have cl0 := (hb5.up ((Up.refl _).drew.trans hu)).cell (o := 0) rfl
    go_simp
    first | done | rfl
  simp only [Act.put, nm1, nm2, nm3, i64_w]
  refine wpK_ops rfl (fun w1 hu => ?_) ?_
  · clear hu
    go_simp
    first | done | rfl
  simp only [Act.put, nm1, nm2, nm3, i64_w]
  refine wpK_nil ?_
  intro w15 hu hap
  simp only [List.drop_succ_cons, List.drop_zero]
  replace hu := (Up.refl _).drew.trans hu
  clear hap
  have hu16 := Aside0.mk hu
  clear hu
  refine wpList_nil ?_
  (try simp only [Exit.then, Exit.inBlock, ↓reduceIte, Nat.reduceEqDiff])
  refine hK14 _ _ ?_
  by_cases c17 : (a0_0 == a1_0) = true
  ·
   rw [if_pos c17] at H
   have c17n : (a0_0 != a1_0) = false := by rw [bne, c17]; rfl
   try simp only [c17, c17n, Bool.not_true, Bool.not_false]
   refine wp_cond_false rfl ?_
   refine wp_skip ?_
   (try simp only [Exit.then, Exit.inBlock, ↓reduceIte, Nat.reduceEqDiff])
   refine hK13 _ _ ?_
   refine wp_region_lit ?_
   refine wpList_plain rfl (fun Ko hKo => ?_)
   go_simp
   refine hKo _ _ ?_
   clear hKo Ko
   try simp only [Act.put, nm1, nm2, nm3, i64_w]
   refine wpList_plain rfl (fun Ko hKo => ?_)
   go_simp
   refine hKo _ _ ?_
   clear hKo Ko
   try simp only [Act.put, nm1, nm2, nm3, i64_w]
   try simp only [show wrap64 1 = 1 from wlit rfl]
   refine wpList_plain rfl (fun Ko hKo => ?_)
   go_simp
   refine hKo _ _ ?_
   clear hKo Ko
   try simp only [Act.put, nm1, nm2, nm3, i64_w]
   refine wpList_nil ?_
   (try simp only [Exit.then, Exit.inBlock, ↓reduceIte, Nat.reduceEqDiff])
   refine hK10 _ _ ?_
   refine rounds_k (fun K18 hK18 => ?_)
   refine wp_seq_k (fun K19 hK19 => ?_)
   refine wp_seq_k (fun K20 hK20 => ?_)
   refine wp_region_lit ?_
   refine wpList_plain rfl (fun Ko hKo => ?_)
   go_simp
   refine hKo _ _ ?_
   clear hKo Ko
   try simp only [Act.put, nm1, nm2, nm3, i64_w]
   refine wpList_plain rfl (fun Ko hKo => ?_)
   go_simp
   refine hKo _ _ ?_
   clear hKo Ko
   try simp only [Act.put, nm1, nm2, nm3, i64_w]
   refine wpList_nil ?_
   (try simp only [Exit.then, Exit.inBlock, ↓reduceIte, Nat.reduceEqDiff])
   refine hK20 _ _ ?_
   refine wp_cond_true rfl ?_
   refine wp_skip ?_
   (try simp only [Exit.then, Exit.inBlock, ↓reduceIte, Nat.reduceEqDiff])
   refine hK19 _ _ ?_
   refine wp_seq_k (fun K21 hK21 => ?_)
   refine wp_block ?_
   refine wp_seq_k (fun K22 hK22 => ?_)
   refine' wp_region_up 7 [Slot.det _, Slot.det _, Slot.det _, Slot.det _, Slot.det _, Slot.det _, Slot.det _] (by kernel_rfl) (by kernel_rfl) ?main
   case main =>
    simp only [List.take_succ_cons, List.take_zero]
    refine wpK_ops rfl (fun w1 hu => ?_) ?_
    · clear hu
      go_simp
      first | done | rfl
    simp only [Act.put, nm1, nm2, nm3, i64_w]
    refine wpK_ops rfl (fun w1 hu => ?_) ?_
    · clear hu
      go_simp
      first | done | rfl
    simp only [Act.put, nm1, nm2, nm3, i64_w]
    refine wpK_ops rfl (fun w1 hu => ?_) ?_
    · have cl0 := ((hb2.up (hu7.out.trans hu16.out)).up ((Up.refl _).drew.trans hu)).cell (o := 1) rfl
      go_simp
      first | done | rfl
    simp only [Act.put, nm1, nm2, nm3, i64_w]
    refine wpK_ops rfl (fun w1 hu => ?_) ?_
    · clear hu
      go_simp
      first | done | rfl
    simp only [Act.put, nm1, nm2, nm3, i64_w]
    refine wpK_ops rfl (fun w1 hu => ?_) ?_
    · clear hu
      go_simp
      first | done | rfl
    simp only [Act.put, nm1, nm2, nm3, i64_w]
    refine wpK_ops rfl (fun w1 hu => ?_) ?_
    · have cl0 := ((hb5.up hu16.out).up ((Up.refl _).drew.trans hu)).cell (o := 1) rfl
      go_simp
      first | done | rfl
    simp only [Act.put, nm1, nm2, nm3, i64_w]
    refine wpK_ops rfl (fun w1 hu => ?_) ?_
    · clear hu
      go_simp
      first | done | rfl
    simp only [Act.put, nm1, nm2, nm3, i64_w]
    refine wpK_nil ?_
    intro w23 hu hap
    simp only [List.drop_succ_cons, List.drop_zero]
    replace hu := (Up.refl _).drew.trans hu
    clear hap
    have hu24 := Aside0.mk hu
    clear hu
    refine wpList_nil ?_
    (try simp only [Exit.then, Exit.inBlock, ↓reduceIte, Nat.reduceEqDiff])
    refine hK22 _ _ ?_
    have hm26 := Aside0.mk (Nat.le_trans ((Nat.le_trans ((Nat.le_trans (hu4.out.size) hu7.out.size)) hu16.out.size)) hu24.out.size)
    by_cases c25 : (a0_1 == a1_1) = true
    ·
     rw [if_pos c25] at H
     have c25n : (a0_1 != a1_1) = false := by rw [bne, c25]; rfl
     try simp only [c25, c25n, Bool.not_true, Bool.not_false]
     refine wp_cond_false rfl ?_
     refine wp_skip ?_
     (try simp only [Exit.then, Exit.inBlock, ↓reduceIte, Nat.reduceEqDiff])
     refine hK21 _ _ ?_
     refine wp_region_lit ?_
     refine wpList_plain rfl (fun Ko hKo => ?_)
     go_simp
     refine hKo _ _ ?_
     clear hKo Ko
     try simp only [Act.put, nm1, nm2, nm3, i64_w]
     refine wpList_plain rfl (fun Ko hKo => ?_)
     go_simp
     refine hKo _ _ ?_
     clear hKo Ko
     try simp only [Act.put, nm1, nm2, nm3, i64_w]
     try simp only [show wrap64 2 = 2 from wlit rfl]
     refine wpList_plain rfl (fun Ko hKo => ?_)
     go_simp
     refine hKo _ _ ?_
     clear hKo Ko
     try simp only [Act.put, nm1, nm2, nm3, i64_w]
     refine wpList_nil ?_
     (try simp only [Exit.then, Exit.inBlock, ↓reduceIte, Nat.reduceEqDiff])
     refine hK18 _ _ ?_
     refine rounds_k (fun K27 hK27 => ?_)
     refine wp_seq_k (fun K28 hK28 => ?_)
     refine wp_seq_k (fun K29 hK29 => ?_)
     refine wp_region_lit ?_
     refine wpList_plain rfl (fun Ko hKo => ?_)
     go_simp
     refine hKo _ _ ?_
     clear hKo Ko
     try simp only [Act.put, nm1, nm2, nm3, i64_w]
     refine wpList_plain rfl (fun Ko hKo => ?_)
     go_simp
     refine hKo _ _ ?_
     clear hKo Ko
     try simp only [Act.put, nm1, nm2, nm3, i64_w]
     refine wpList_nil ?_
     (try simp only [Exit.then, Exit.inBlock, ↓reduceIte, Nat.reduceEqDiff])
     refine hK29 _ _ ?_
     refine wp_cond_true rfl ?_
     refine wp_skip ?_
     (try simp only [Exit.then, Exit.inBlock, ↓reduceIte, Nat.reduceEqDiff])
     refine hK28 _ _ ?_
     refine wp_seq_k (fun K30 hK30 => ?_)
     refine wp_block ?_
     refine wp_seq_k (fun K31 hK31 => ?_)
     refine' wp_region_up 7 [Slot.det _, Slot.det _, Slot.det _, Slot.det _, Slot.det _, Slot.det _, Slot.det _] (by kernel_rfl) (by kernel_rfl) ?main
     case main =>
      simp only [List.take_succ_cons, List.take_zero]
      refine wpK_ops rfl (fun w1 hu => ?_) ?_
      · clear hu
        go_simp
        first | done | rfl
      simp only [Act.put, nm1, nm2, nm3, i64_w]
      refine wpK_ops rfl (fun w1 hu => ?_) ?_
      · clear hu
        go_simp
        first | done | rfl
      simp only [Act.put, nm1, nm2, nm3, i64_w]
      refine wpK_ops rfl (fun w1 hu => ?_) ?_
      · have cl0 := ((hb2.up ((hu7.out.trans hu16.out).trans hu24.out)).up ((Up.refl _).drew.trans hu)).cell (o := 2) rfl
        go_simp
        first | done | rfl
      simp only [Act.put, nm1, nm2, nm3, i64_w]
      refine wpK_ops rfl (fun w1 hu => ?_) ?_
      · clear hu
        go_simp
        first | done | rfl
      simp only [Act.put, nm1, nm2, nm3, i64_w]
      refine wpK_ops rfl (fun w1 hu => ?_) ?_
      · clear hu
        go_simp
        first | done | rfl
      simp only [Act.put, nm1, nm2, nm3, i64_w]
      refine wpK_ops rfl (fun w1 hu => ?_) ?_
      · have cl0 := ((hb5.up (hu16.out.trans hu24.out)).up ((Up.refl _).drew.trans hu)).cell (o := 2) rfl
        go_simp
        first | done | rfl
      simp only [Act.put, nm1, nm2, nm3, i64_w]
      refine wpK_ops rfl (fun w1 hu => ?_) ?_
      · clear hu
        go_simp
        first | done | rfl
      simp only [Act.put, nm1, nm2, nm3, i64_w]
      refine wpK_nil ?_
      intro w32 hu hap
      simp only [List.drop_succ_cons, List.drop_zero]
      replace hu := (Up.refl _).drew.trans hu
      clear hap
      have hu33 := Aside0.mk hu
      clear hu
      refine wpList_nil ?_
      (try simp only [Exit.then, Exit.inBlock, ↓reduceIte, Nat.reduceEqDiff])
      refine hK31 _ _ ?_
      have h35 := (hb2.up (((hu7.out.trans hu16.out).trans hu24.out).trans hu33.out))
      by_cases c34 : (a0_2 == a1_2) = true
      ·
       rw [if_pos c34] at H
       have c34n : (a0_2 != a1_2) = false := by rw [bne, c34]; rfl
       try simp only [c34, c34n, Bool.not_true, Bool.not_false]
       refine wp_cond_false rfl ?_
       refine wp_skip ?_
       (try simp only [Exit.then, Exit.inBlock, ↓reduceIte, Nat.reduceEqDiff])
       refine hK30 _ _ ?_
       refine wp_region_lit ?_
       refine wpList_plain rfl (fun Ko hKo => ?_)
       go_simp
       refine hKo _ _ ?_
       clear hKo Ko
       try simp only [Act.put, nm1, nm2, nm3, i64_w]
       refine wpList_plain rfl (fun Ko hKo => ?_)
       go_simp
       refine hKo _ _ ?_
       clear hKo Ko
       try simp only [Act.put, nm1, nm2, nm3, i64_w]
       try simp only [show wrap64 3 = 3 from wlit rfl]
       refine wpList_plain rfl (fun Ko hKo => ?_)
       go_simp
       refine hKo _ _ ?_
       clear hKo Ko
       try simp only [Act.put, nm1, nm2, nm3, i64_w]
       refine wpList_nil ?_
       (try simp only [Exit.then, Exit.inBlock, ↓reduceIte, Nat.reduceEqDiff])
       refine hK27 _ _ ?_
       refine rounds_k (fun K36 hK36 => ?_)
       refine wp_seq_k (fun K37 hK37 => ?_)
       refine wp_seq_k (fun K38 hK38 => ?_)
       refine wp_region_lit ?_
       refine wpList_plain rfl (fun Ko hKo => ?_)
       go_simp
       refine hKo _ _ ?_
       clear hKo Ko
       try simp only [Act.put, nm1, nm2, nm3, i64_w]
       refine wpList_plain rfl (fun Ko hKo => ?_)
       go_simp
       refine hKo _ _ ?_
       clear hKo Ko
       try simp only [Act.put, nm1, nm2, nm3, i64_w]
       refine wpList_nil ?_
       (try simp only [Exit.then, Exit.inBlock, ↓reduceIte, Nat.reduceEqDiff])
       refine hK38 _ _ ?_
       refine wp_cond_true rfl ?_
       refine wp_skip ?_
       (try simp only [Exit.then, Exit.inBlock, ↓reduceIte, Nat.reduceEqDiff])
       refine hK37 _ _ ?_
       refine wp_seq_k (fun K39 hK39 => ?_)
       refine wp_block ?_
       refine wp_seq_k (fun K40 hK40 => ?_)
       refine' wp_region_up 7 [Slot.det _, Slot.det _, Slot.det _, Slot.det _, Slot.det _, Slot.det _, Slot.det _] (by kernel_rfl) (by kernel_rfl) ?main
       case main =>
        simp only [List.take_succ_cons, List.take_zero]
        refine wpK_ops rfl (fun w1 hu => ?_) ?_
        · clear hu
          go_simp
          first | done | rfl
        simp only [Act.put, nm1, nm2, nm3, i64_w]
        refine wpK_ops rfl (fun w1 hu => ?_) ?_
        · clear hu
          go_simp
          first | done | rfl
        simp only [Act.put, nm1, nm2, nm3, i64_w]
        refine wpK_ops rfl (fun w1 hu => ?_) ?_
        · have cl0 := (h35.up ((Up.refl _).drew.trans hu)).cell (o := 3) rfl
          go_simp
          first | done | rfl
        simp only [Act.put, nm1, nm2, nm3, i64_w]
        refine wpK_ops rfl (fun w1 hu => ?_) ?_
        · clear hu
          go_simp
          first | done | rfl
        simp only [Act.put, nm1, nm2, nm3, i64_w]
        refine wpK_ops rfl (fun w1 hu => ?_) ?_
        · clear hu
          go_simp
          first | done | rfl
        simp only [Act.put, nm1, nm2, nm3, i64_w]
        refine wpK_ops rfl (fun w1 hu => ?_) ?_
        · have cl0 := ((hb5.up ((hu16.out.trans hu24.out).trans hu33.out)).up ((Up.refl _).drew.trans hu)).cell (o := 3) rfl
          go_simp
          first | done | rfl
        simp only [Act.put, nm1, nm2, nm3, i64_w]
        refine wpK_ops rfl (fun w1 hu => ?_) ?_
        · clear hu
          go_simp
          first | done | rfl
        simp only [Act.put, nm1, nm2, nm3, i64_w]
        refine wpK_nil ?_
        intro w41 hu hap
        simp only [List.drop_succ_cons, List.drop_zero]
        replace hu := (Up.refl _).drew.trans hu
        clear hap
        have hu42 := Aside0.mk hu
        clear hu
        refine wpList_nil ?_
        (try simp only [Exit.then, Exit.inBlock, ↓reduceIte, Nat.reduceEqDiff])
        refine hK40 _ _ ?_
        have hm44 := Aside0.mk (((((hu4.out.trans hu7.out).trans hu16.out).trans hu24.out).trans hu33.out).trans hu42.out)
        have h45 := (hb5.up (((hu16.out.trans hu24.out).trans hu33.out).trans hu42.out))
        by_cases c43 : (a0_3 == a1_3) = true
        ·
         rw [if_pos c43] at H
         have c43n : (a0_3 != a1_3) = false := by rw [bne, c43]; rfl
         obtain rfl := Option.some.inj H
         try simp only [c43, c43n, Bool.not_true, Bool.not_false]
         refine wp_cond_false rfl ?_
         refine wp_skip ?_
         (try simp only [Exit.then, Exit.inBlock, ↓reduceIte, Nat.reduceEqDiff])
         refine hK39 _ _ ?_
         refine wp_region_lit ?_
         refine wpList_plain rfl (fun Ko hKo => ?_)
         go_simp
         refine hKo _ _ ?_
         clear hKo Ko
         try simp only [Act.put, nm1, nm2, nm3, i64_w]
         refine wpList_plain rfl (fun Ko hKo => ?_)
         go_simp
         refine hKo _ _ ?_
         clear hKo Ko
         try simp only [Act.put, nm1, nm2, nm3, i64_w]
         try simp only [show wrap64 4 = 4 from wlit rfl]
         refine wpList_plain rfl (fun Ko hKo => ?_)
         go_simp
         refine hKo _ _ ?_
         clear hKo Ko
         try simp only [Act.put, nm1, nm2, nm3, i64_w]
         refine wpList_nil ?_
         (try simp only [Exit.then, Exit.inBlock, ↓reduceIte, Nat.reduceEqDiff])
         refine hK36 _ _ ?_
         refine rounds_k (fun K46 hK46 => ?_)
         refine wp_seq_k (fun K47 hK47 => ?_)
         refine wp_seq_k (fun K48 hK48 => ?_)
         refine wp_region_lit ?_
         refine wpList_plain rfl (fun Ko hKo => ?_)
         go_simp
         refine hKo _ _ ?_
         clear hKo Ko
         try simp only [Act.put, nm1, nm2, nm3, i64_w]
         refine wpList_plain rfl (fun Ko hKo => ?_)
         go_simp
         refine hKo _ _ ?_
         clear hKo Ko
         try simp only [Act.put, nm1, nm2, nm3, i64_w]
         refine wpList_nil ?_
         (try simp only [Exit.then, Exit.inBlock, ↓reduceIte, Nat.reduceEqDiff])
         refine hK48 _ _ ?_
         refine wp_cond_false rfl ?_
         refine wp_exit ?_
         (try simp only [Exit.then, Exit.inBlock, ↓reduceIte, Nat.reduceEqDiff])
         refine hK8 _ _ ?_
         refine wp_seq_k (fun K49 hK49 => ?_)
         refine wp_region_lit ?_
         refine wpList_plain rfl (fun Ko hKo => ?_)
         go_simp
         refine hKo _ _ ?_
         clear hKo Ko
         try simp only [Act.put, nm1, nm2, nm3, i64_w]
         refine wpList_nil ?_
         (try simp only [Exit.then, Exit.inBlock, ↓reduceIte, Nat.reduceEqDiff])
         refine hK49 _ _ ?_
         refine wp_ret ?_
         (try simp only [Exit.then, Exit.inBlock, ↓reduceIte, Nat.reduceEqDiff])
         refine hQf _ _ _ ?_
         exact bodyPost_ret (v := .bool true) (by first | rfl | (simp [results, Try.results61, go_sem]; done) | (simp [results, Try.results61, go_sem]; rfl)) rfl ⟨rfl, hm44.out⟩
        ·
         rw [if_neg c43] at H
         replace c43 := Bool.eq_false_iff.mpr c43
         have c43n : (a0_3 != a1_3) = true := by rw [bne, c43]; rfl
         have c43p : ¬ a0_3 = a1_3 := fun e => by simp [e] at c43
         obtain rfl := Option.some.inj H
         try simp only [c43, c43n, Bool.not_true, Bool.not_false]
         refine wp_cond_true rfl ?_
         refine wp_seq_k (fun K50 hK50 => ?_)
         refine wp_region_lit ?_
         refine wpList_plain rfl (fun Ko hKo => ?_)
         go_simp
         refine hKo _ _ ?_
         clear hKo Ko
         try simp only [Act.put, nm1, nm2, nm3, i64_w]
         refine wpList_nil ?_
         (try simp only [Exit.then, Exit.inBlock, ↓reduceIte, Nat.reduceEqDiff])
         refine hK50 _ _ ?_
         refine wp_ret ?_
         (try simp only [Exit.then, Exit.inBlock, ↓reduceIte, Nat.reduceEqDiff])
         refine hQf _ _ _ ?_
         exact bodyPost_ret (v := .bool false) (by first | rfl | (simp [results, Try.results61, go_sem]; done) | (simp [results, Try.results61, go_sem]; rfl)) rfl ⟨rfl, hm44.out⟩
      ·
       rw [if_neg c34] at H
       replace c34 := Bool.eq_false_iff.mpr c34
       have c34n : (a0_2 != a1_2) = true := by rw [bne, c34]; rfl
       have c34p : ¬ a0_2 = a1_2 := fun e => by simp [e] at c34
       obtain rfl := Option.some.inj H
       try simp only [c34, c34n, Bool.not_true, Bool.not_false]
       refine wp_cond_true rfl ?_
       refine wp_seq_k (fun K51 hK51 => ?_)
       refine wp_region_lit ?_
       refine wpList_plain rfl (fun Ko hKo => ?_)
       go_simp
       refine hKo _ _ ?_
       clear hKo Ko
       try simp only [Act.put, nm1, nm2, nm3, i64_w]
       refine wpList_nil ?_
       (try simp only [Exit.then, Exit.inBlock, ↓reduceIte, Nat.reduceEqDiff])
       refine hK51 _ _ ?_
       refine wp_ret ?_
       (try simp only [Exit.then, Exit.inBlock, ↓reduceIte, Nat.reduceEqDiff])
       refine hQf _ _ _ ?_
       exact bodyPost_ret (v := .bool false) (by first | rfl | (simp [results, Try.results61, go_sem]; done) | (simp [results, Try.results61, go_sem]; rfl)) rfl ⟨rfl, ((((hu4.out.trans hu7.out).trans hu16.out).trans hu24.out).trans hu33.out)⟩
    ·
     rw [if_neg c25] at H
     replace c25 := Bool.eq_false_iff.mpr c25
     have c25n : (a0_1 != a1_1) = true := by rw [bne, c25]; rfl
     have c25p : ¬ a0_1 = a1_1 := fun e => by simp [e] at c25
     obtain rfl := Option.some.inj H
     try simp only [c25, c25n, Bool.not_true, Bool.not_false]
     refine wp_cond_true rfl ?_
     refine wp_seq_k (fun K52 hK52 => ?_)
     refine wp_region_lit ?_
     refine wpList_plain rfl (fun Ko hKo => ?_)
     go_simp
     refine hKo _ _ ?_
     clear hKo Ko
     try simp only [Act.put, nm1, nm2, nm3, i64_w]
     refine wpList_nil ?_
     (try simp only [Exit.then, Exit.inBlock, ↓reduceIte, Nat.reduceEqDiff])
     refine hK52 _ _ ?_
     refine wp_ret ?_
     (try simp only [Exit.then, Exit.inBlock, ↓reduceIte, Nat.reduceEqDiff])
     refine hQf _ _ _ ?_
     exact bodyPost_ret (v := .bool false) (by first | rfl | (simp [results, Try.results61, go_sem]; done) | (simp [results, Try.results61, go_sem]; rfl)) rfl ⟨rfl, (((hu4.out.trans hu7.out).trans hu16.out).trans hu24.out)⟩
  ·
   rw [if_neg c17] at H
   replace c17 := Bool.eq_false_iff.mpr c17
   have c17n : (a0_0 != a1_0) = true := by rw [bne, c17]; rfl
   have c17p : ¬ a0_0 = a1_0 := fun e => by simp [e] at c17
   obtain rfl := Option.some.inj H
   try simp only [c17, c17n, Bool.not_true, Bool.not_false]
   refine wp_cond_true rfl ?_
   refine wp_seq_k (fun K53 hK53 => ?_)
   refine wp_region_lit ?_
   refine wpList_plain rfl (fun Ko hKo => ?_)
   go_simp
   refine hKo _ _ ?_
   clear hKo Ko
   try simp only [Act.put, nm1, nm2, nm3, i64_w]
   refine wpList_nil ?_
   (try simp only [Exit.then, Exit.inBlock, ↓reduceIte, Nat.reduceEqDiff])
   refine hK53 _ _ ?_
   refine wp_ret ?_
   (try simp only [Exit.then, Exit.inBlock, ↓reduceIte, Nat.reduceEqDiff])
   refine hQf _ _ _ ?_
   exact bodyPost_ret (v := .bool false) (by first | rfl | (simp [results, Try.results61, go_sem]; done) | (simp [results, Try.results61, go_sem]; rfl)) rfl ⟨rfl, ((hu4.out.trans hu7.out).trans hu16.out)⟩

set_option maxHeartbeats 40000000 in
set_option maxRecDepth 100000 in
theorem laws_eqPoint.calls (K : Nat) (a0_0 : Int) (a0_1 : Int) (a1_0 : Int) (a1_1 : Int) (r0 : Bool) (w : World)  (h : laws_eqPoint.f K a0_0 a0_1 a1_0 a1_1 = some (r0)) :
    Calls Try.prog 17 #[.agg #[.int .i64 a0_0, .int .i64 a0_1], .agg #[.int .i64 a1_0, .int .i64 a1_1]] w fun e w' => e = .returned (.bool r0) ∧ Up w w' := by
 have H : ((if (a0_0 == a1_0) = true then (if (a0_1 == a1_1) = true then some true else some false) else some false) : Option (Bool)) = some (r0) := h
 clear h
 go_enter Try.func17, Try.ntmps17
 refine wp_hide (fun Qf hQf => ?_)
 refine wp_seq_k (fun K1 hK1 => ?_)
 refine wp_region_lit ?_
 refine step_new (cs := [.int .i64 a0_0, .int .i64 a0_1]) (T := 26) (f := fun b => .pointer (some ⟨b, 0, none⟩)) rfl (by first | (go_simp; done) | (go_simp; rfl)) ?_
 intro b2 w3 hu lb hb2
 simp only [Act.put, nm1, nm2, nm3, i64_w]
 have lbb2 := Aside0.mk lb
 have ltb2 := Aside0.mk hb2.lt
 clear lb
 have hu4 := Aside0.mk hu
 clear hu
 refine step_new (cs := [.int .i64 a1_0, .int .i64 a1_1]) (T := 26) (f := fun b => .pointer (some ⟨b, 0, none⟩)) rfl (by first | (go_simp; done) | (go_simp; rfl)) ?_
 intro b5 w6 hu lb hb5
 simp only [Act.put, nm1, nm2, nm3, i64_w]
 have lbb5 := Aside0.mk lb
 have ltb5 := Aside0.mk hb5.lt
 clear lb
 have hu7 := Aside0.mk hu
 clear hu
 refine wpList_plain rfl (fun Ko hKo => ?_)
 go_simp
 refine hKo _ _ ?_
 clear hKo Ko
 try simp only [Act.put, nm1, nm2, nm3, i64_w]
 refine wpList_nil ?_
 (try simp only [Exit.then, Exit.inBlock, ↓reduceIte, Nat.reduceEqDiff])
 refine hK1 _ _ ?_
 refine wp_seq_k (fun K8 hK8 => ?_)
 refine wp_seq_k (fun K9 hK9 => ?_)
 refine wp_region_lit ?_
 refine wpList_plain rfl (fun Ko hKo => ?_)
 go_simp
 refine hKo _ _ ?_
 clear hKo Ko
 try simp only [Act.put, nm1, nm2, nm3, i64_w]
 refine wpList_nil ?_
 (try simp only [Exit.then, Exit.inBlock, ↓reduceIte, Nat.reduceEqDiff])
 refine hK9 _ _ ?_
 refine wp_block ?_
 refine wp_loop_rounds 40 ?_
 refine rounds_k (fun K10 hK10 => ?_)
 refine wp_seq_k (fun K11 hK11 => ?_)
 refine wp_seq_k (fun K12 hK12 => ?_)
 refine wp_region_lit ?_
 refine wpList_plain rfl (fun Ko hKo => ?_)
 go_simp
 refine hKo _ _ ?_
 clear hKo Ko
 try simp only [Act.put, nm1, nm2, nm3, i64_w]
 refine wpList_plain rfl (fun Ko hKo => ?_)
 go_simp
 refine hKo _ _ ?_
 clear hKo Ko
 try simp only [Act.put, nm1, nm2, nm3, i64_w]
 refine wpList_nil ?_
 (try simp only [Exit.then, Exit.inBlock, ↓reduceIte, Nat.reduceEqDiff])
 refine hK12 _ _ ?_
 refine wp_cond_true rfl ?_
 refine wp_skip ?_
 (try simp only [Exit.then, Exit.inBlock, ↓reduceIte, Nat.reduceEqDiff])
 refine hK11 _ _ ?_
 refine wp_seq_k (fun K13 hK13 => ?_)
 refine wp_block ?_
 refine wp_seq_k (fun K14 hK14 => ?_)
 refine' wp_region_up 7 [Slot.det _, Slot.det _, Slot.det _, Slot.det _, Slot.det _, Slot.det _, Slot.det _] (by kernel_rfl) (by kernel_rfl) ?main
 case main =>
  simp only [List.take_succ_cons, List.take_zero]
  refine wpK_ops rfl (fun w1 hu => ?_) ?_
  · clear hu
    go_simp
    first | done | rfl
  simp only [Act.put, nm1, nm2, nm3, i64_w]
  refine wpK_ops rfl (fun w1 hu => ?_) ?_
  · clear hu
    go_simp
    first | done | rfl
  simp only [Act.put, nm1, nm2, nm3, i64_w]
  refine wpK_ops rfl (fun w1 hu => ?_) ?_
  · have cl0 := ((hb2.up hu7.out).up ((Up.refl _).drew.trans hu)).cell (o := 0) rfl
    go_simp
    first | done | rfl
  simp only [Act.put, nm1, nm2, nm3, i64_w]
  refine wpK_ops rfl (fun w1 hu => ?_) ?_
  · clear hu
    go_simp
    first | done | rfl
  simp only [Act.put, nm1, nm2, nm3, i64_w]
  refine wpK_ops rfl (fun w1 hu => ?_) ?_
  · clear hu
    go_simp
    first | done | rfl
  simp only [Act.put, nm1, nm2, nm3, i64_w]
  refine wpK_ops rfl (fun w1 hu => ?_) ?_
  · have cl0 := (hb5.up ((Up.refl _).drew.trans hu)).cell (o := 0) rfl
    go_simp
    first | done | rfl
  simp only [Act.put, nm1, nm2, nm3, i64_w]
  refine wpK_ops rfl (fun w1 hu => ?_) ?_
  · clear hu
    go_simp
    first | done | rfl
  simp only [Act.put, nm1, nm2, nm3, i64_w]
  refine wpK_nil ?_
  intro w15 hu hap
  simp only [List.drop_succ_cons, List.drop_zero]
  replace hu := (Up.refl _).drew.trans hu
  clear hap
  have hu16 := Aside0.mk hu
  clear hu
  refine wpList_nil ?_
  (try simp only [Exit.then, Exit.inBlock, ↓reduceIte, Nat.reduceEqDiff])
  refine hK14 _ _ ?_
  by_cases c17 : (a0_0 == a1_0) = true
  ·
   rw [if_pos c17] at H
   have c17n : (a0_0 != a1_0) = false := by rw [bne, c17]; rfl
   try simp only [c17, c17n, Bool.not_true, Bool.not_false]
   refine wp_cond_false rfl ?_
   refine wp_skip ?_
   (try simp only [Exit.then, Exit.inBlock, ↓reduceIte, Nat.reduceEqDiff])
   refine hK13 _ _ ?_
   refine wp_region_lit ?_
   refine wpList_plain rfl (fun Ko hKo => ?_)
   go_simp
   refine hKo _ _ ?_
   clear hKo Ko
   try simp only [Act.put, nm1, nm2, nm3, i64_w]
   refine wpList_plain rfl (fun Ko hKo => ?_)
   go_simp
   refine hKo _ _ ?_
   clear hKo Ko
   try simp only [Act.put, nm1, nm2, nm3, i64_w]
   try simp only [show wrap64 1 = 1 from wlit rfl]
   refine wpList_plain rfl (fun Ko hKo => ?_)
   go_simp
   refine hKo _ _ ?_
   clear hKo Ko
   try simp only [Act.put, nm1, nm2, nm3, i64_w]
   refine wpList_nil ?_
   (try simp only [Exit.then, Exit.inBlock, ↓reduceIte, Nat.reduceEqDiff])
   refine hK10 _ _ ?_
   refine rounds_k (fun K18 hK18 => ?_)
   refine wp_seq_k (fun K19 hK19 => ?_)
   refine wp_seq_k (fun K20 hK20 => ?_)
   refine wp_region_lit ?_
   refine wpList_plain rfl (fun Ko hKo => ?_)
   go_simp
   refine hKo _ _ ?_
   clear hKo Ko
   try simp only [Act.put, nm1, nm2, nm3, i64_w]
   refine wpList_plain rfl (fun Ko hKo => ?_)
   go_simp
   refine hKo _ _ ?_
   clear hKo Ko
   try simp only [Act.put, nm1, nm2, nm3, i64_w]
   refine wpList_nil ?_
   (try simp only [Exit.then, Exit.inBlock, ↓reduceIte, Nat.reduceEqDiff])
   refine hK20 _ _ ?_
   refine wp_cond_true rfl ?_
   refine wp_skip ?_
   (try simp only [Exit.then, Exit.inBlock, ↓reduceIte, Nat.reduceEqDiff])
   refine hK19 _ _ ?_
   refine wp_seq_k (fun K21 hK21 => ?_)
   refine wp_block ?_
   refine wp_seq_k (fun K22 hK22 => ?_)
   refine' wp_region_up 7 [Slot.det _, Slot.det _, Slot.det _, Slot.det _, Slot.det _, Slot.det _, Slot.det _] (by kernel_rfl) (by kernel_rfl) ?main
   case main =>
    simp only [List.take_succ_cons, List.take_zero]
    refine wpK_ops rfl (fun w1 hu => ?_) ?_
    · clear hu
      go_simp
      first | done | rfl
    simp only [Act.put, nm1, nm2, nm3, i64_w]
    refine wpK_ops rfl (fun w1 hu => ?_) ?_
    · clear hu
      go_simp
      first | done | rfl
    simp only [Act.put, nm1, nm2, nm3, i64_w]
    refine wpK_ops rfl (fun w1 hu => ?_) ?_
    · have cl0 := ((hb2.up (hu7.out.trans hu16.out)).up ((Up.refl _).drew.trans hu)).cell (o := 1) rfl
      go_simp
      first | done | rfl
    simp only [Act.put, nm1, nm2, nm3, i64_w]
    refine wpK_ops rfl (fun w1 hu => ?_) ?_
    · clear hu
      go_simp
      first | done | rfl
    simp only [Act.put, nm1, nm2, nm3, i64_w]
    refine wpK_ops rfl (fun w1 hu => ?_) ?_
    · clear hu
      go_simp
      first | done | rfl
    simp only [Act.put, nm1, nm2, nm3, i64_w]
    refine wpK_ops rfl (fun w1 hu => ?_) ?_
    · have cl0 := ((hb5.up hu16.out).up ((Up.refl _).drew.trans hu)).cell (o := 1) rfl
      go_simp
      first | done | rfl
    simp only [Act.put, nm1, nm2, nm3, i64_w]
    refine wpK_ops rfl (fun w1 hu => ?_) ?_
    · clear hu
      go_simp
      first | done | rfl
    simp only [Act.put, nm1, nm2, nm3, i64_w]
    refine wpK_nil ?_
    intro w23 hu hap
    simp only [List.drop_succ_cons, List.drop_zero]
    replace hu := (Up.refl _).drew.trans hu
    clear hap
    have hu24 := Aside0.mk hu
    clear hu
    refine wpList_nil ?_
    (try simp only [Exit.then, Exit.inBlock, ↓reduceIte, Nat.reduceEqDiff])
    refine hK22 _ _ ?_
    have hm26 := Aside0.mk (Nat.le_trans ((Nat.le_trans ((Nat.le_trans (hu4.out.size) hu7.out.size)) hu16.out.size)) hu24.out.size)
    by_cases c25 : (a0_1 == a1_1) = true
    ·
     rw [if_pos c25] at H
     have c25n : (a0_1 != a1_1) = false := by rw [bne, c25]; rfl
     obtain rfl := Option.some.inj H
     try simp only [c25, c25n, Bool.not_true, Bool.not_false]
     refine wp_cond_false rfl ?_
     refine wp_skip ?_
     (try simp only [Exit.then, Exit.inBlock, ↓reduceIte, Nat.reduceEqDiff])
     refine hK21 _ _ ?_
     refine wp_region_lit ?_
     refine wpList_plain rfl (fun Ko hKo => ?_)
     go_simp
     refine hKo _ _ ?_
     clear hKo Ko
     try simp only [Act.put, nm1, nm2, nm3, i64_w]
     refine wpList_plain rfl (fun Ko hKo => ?_)
     go_simp
     refine hKo _ _ ?_
     clear hKo Ko
     try simp only [Act.put, nm1, nm2, nm3, i64_w]
     try simp only [show wrap64 2 = 2 from wlit rfl]
     refine wpList_plain rfl (fun Ko hKo => ?_)
     go_simp
     refine hKo _ _ ?_
     clear hKo Ko
     try simp only [Act.put, nm1, nm2, nm3, i64_w]
     refine wpList_nil ?_
     (try simp only [Exit.then, Exit.inBlock, ↓reduceIte, Nat.reduceEqDiff])
     refine hK18 _ _ ?_
     refine rounds_k (fun K27 hK27 => ?_)
     refine wp_seq_k (fun K28 hK28 => ?_)
     refine wp_seq_k (fun K29 hK29 => ?_)
     refine wp_region_lit ?_
     refine wpList_plain rfl (fun Ko hKo => ?_)
     go_simp
     refine hKo _ _ ?_
     clear hKo Ko
     try simp only [Act.put, nm1, nm2, nm3, i64_w]
     refine wpList_plain rfl (fun Ko hKo => ?_)
     go_simp
     refine hKo _ _ ?_
     clear hKo Ko
     try simp only [Act.put, nm1, nm2, nm3, i64_w]
     refine wpList_nil ?_
     (try simp only [Exit.then, Exit.inBlock, ↓reduceIte, Nat.reduceEqDiff])
     refine hK29 _ _ ?_
     refine wp_cond_false rfl ?_
     refine wp_exit ?_
     (try simp only [Exit.then, Exit.inBlock, ↓reduceIte, Nat.reduceEqDiff])
     refine hK8 _ _ ?_
     refine wp_seq_k (fun K30 hK30 => ?_)
     refine wp_region_lit ?_
     refine wpList_plain rfl (fun Ko hKo => ?_)
     go_simp
     refine hKo _ _ ?_
     clear hKo Ko
     try simp only [Act.put, nm1, nm2, nm3, i64_w]
     refine wpList_nil ?_
     (try simp only [Exit.then, Exit.inBlock, ↓reduceIte, Nat.reduceEqDiff])
     refine hK30 _ _ ?_
     refine wp_ret ?_
     (try simp only [Exit.then, Exit.inBlock, ↓reduceIte, Nat.reduceEqDiff])
     refine hQf _ _ _ ?_
     exact bodyPost_ret (v := .bool true) (by first | rfl | (simp [results, Try.results17, go_sem]; done) | (simp [results, Try.results17, go_sem]; rfl)) rfl ⟨rfl, (((hu4.out.trans hu7.out).trans hu16.out).trans hu24.out)⟩
    ·
     rw [if_neg c25] at H
     replace c25 := Bool.eq_false_iff.mpr c25
     have c25n : (a0_1 != a1_1) = true := by rw [bne, c25]; rfl
     have c25p : ¬ a0_1 = a1_1 := fun e => by simp [e] at c25
     obtain rfl := Option.some.inj H
     try simp only [c25, c25n, Bool.not_true, Bool.not_false]
     refine wp_cond_true rfl ?_
     refine wp_seq_k (fun K31 hK31 => ?_)
     refine wp_region_lit ?_
     refine wpList_plain rfl (fun Ko hKo => ?_)
     go_simp
     refine hKo _ _ ?_
     clear hKo Ko
     try simp only [Act.put, nm1, nm2, nm3, i64_w]
     refine wpList_nil ?_
     (try simp only [Exit.then, Exit.inBlock, ↓reduceIte, Nat.reduceEqDiff])
     refine hK31 _ _ ?_
     refine wp_ret ?_
     (try simp only [Exit.then, Exit.inBlock, ↓reduceIte, Nat.reduceEqDiff])
     refine hQf _ _ _ ?_
     exact bodyPost_ret (v := .bool false) (by first | rfl | (simp [results, Try.results17, go_sem]; done) | (simp [results, Try.results17, go_sem]; rfl)) rfl ⟨rfl, (((hu4.out.trans hu7.out).trans hu16.out).trans hu24.out)⟩
  ·
   rw [if_neg c17] at H
   replace c17 := Bool.eq_false_iff.mpr c17
   have c17n : (a0_0 != a1_0) = true := by rw [bne, c17]; rfl
   have c17p : ¬ a0_0 = a1_0 := fun e => by simp [e] at c17
   obtain rfl := Option.some.inj H
   try simp only [c17, c17n, Bool.not_true, Bool.not_false]
   refine wp_cond_true rfl ?_
   refine wp_seq_k (fun K32 hK32 => ?_)
   refine wp_region_lit ?_
   refine wpList_plain rfl (fun Ko hKo => ?_)
   go_simp
   refine hKo _ _ ?_
   clear hKo Ko
   try simp only [Act.put, nm1, nm2, nm3, i64_w]
   refine wpList_nil ?_
   (try simp only [Exit.then, Exit.inBlock, ↓reduceIte, Nat.reduceEqDiff])
   refine hK32 _ _ ?_
   refine wp_ret ?_
   (try simp only [Exit.then, Exit.inBlock, ↓reduceIte, Nat.reduceEqDiff])
   refine hQf _ _ _ ?_
   exact bodyPost_ret (v := .bool false) (by first | rfl | (simp [results, Try.results17, go_sem]; done) | (simp [results, Try.results17, go_sem]; rfl)) rfl ⟨rfl, ((hu4.out.trans hu7.out).trans hu16.out)⟩

set_option maxHeartbeats 40000000 in
set_option maxRecDepth 100000 in
theorem laws_eqMove.calls (K : Nat) (a0_0 : Int) (a0_1 : Int) (a0_2 : Int) (a0_3 : Int) (a0_4 : Int) (a0_5 : Int) (a1_0 : Int) (a1_1 : Int) (a1_2 : Int) (a1_3 : Int) (a1_4 : Int) (a1_5 : Int) (r0 : Bool) (w : World)  (h : laws_eqMove.f K a0_0 a0_1 a0_2 a0_3 a0_4 a0_5 a1_0 a1_1 a1_2 a1_3 a1_4 a1_5 = some (r0)) :
    Calls Try.prog 22 #[.agg #[.int .i64 a0_0, .int .i64 a0_1, .int .i64 a0_2, .int .i64 a0_3, .int .i64 a0_4, .int .i64 a0_5], .agg #[.int .i64 a1_0, .int .i64 a1_1, .int .i64 a1_2, .int .i64 a1_3, .int .i64 a1_4, .int .i64 a1_5]] w fun e w' => e = .returned (.bool r0) ∧ Up w w' := by
 have H : (((laws_eqInt64A4.f K a0_0 a0_1 a0_2 a0_3 a1_0 a1_1 a1_2 a1_3).bind fun t10 => (if t10 = true then ((laws_eqPoint.f K a0_4 a0_5 a1_4 a1_5).bind fun t17 => (if t17 = true then some true else some false)) else some false)) : Option (Bool)) = some (r0) := h
 clear h
 replace H := Option.bind_eq_some_iff.mp H
 obtain ⟨t10, A11, H⟩ := H
 replace A11 := Aside0.mk A11
 try dsimp only at H
 go_enter Try.func22, Try.ntmps22
 refine wp_hide (fun Qf hQf => ?_)
 refine wp_seq_k (fun K1 hK1 => ?_)
 refine wp_region_lit ?_
 refine step_new (cs := [.int .i64 a0_0, .int .i64 a0_1, .int .i64 a0_2, .int .i64 a0_3, .int .i64 a0_4, .int .i64 a0_5]) (T := 30) (f := fun b => .pointer (some ⟨b, 0, none⟩)) rfl (by first | (go_simp; done) | (go_simp; rfl)) ?_
 intro b2 w3 hu lb hb2
 simp only [Act.put, nm1, nm2, nm3, i64_w]
 have lbb2 := Aside0.mk lb
 have ltb2 := Aside0.mk hb2.lt
 clear lb
 have hu4 := Aside0.mk hu
 clear hu
 refine step_new (cs := [.int .i64 a1_0, .int .i64 a1_1, .int .i64 a1_2, .int .i64 a1_3, .int .i64 a1_4, .int .i64 a1_5]) (T := 30) (f := fun b => .pointer (some ⟨b, 0, none⟩)) rfl (by first | (go_simp; done) | (go_simp; rfl)) ?_
 intro b5 w6 hu lb hb5
 simp only [Act.put, nm1, nm2, nm3, i64_w]
 have lbb5 := Aside0.mk lb
 have ltb5 := Aside0.mk hb5.lt
 clear lb
 have hu7 := Aside0.mk hu
 clear hu
 refine wpList_plain rfl (fun Ko hKo => ?_)
 go_simp
 refine hKo _ _ ?_
 clear hKo Ko
 try simp only [Act.put, nm1, nm2, nm3, i64_w]
 refine wpList_nil ?_
 (try simp only [Exit.then, Exit.inBlock, ↓reduceIte, Nat.reduceEqDiff])
 refine hK1 _ _ ?_
 refine wp_seq_k (fun K8 hK8 => ?_)
 refine wp_seq_k (fun K9 hK9 => ?_)
 refine wp_region_lit ?_
 refine wpList_plain rfl (fun Ko hKo => ?_)
 go_simp
 refine hKo _ _ ?_
 clear hKo Ko
 try simp only [Act.put, nm1, nm2, nm3, i64_w]
 have cl0 := (hb2.up hu7.out).cell (o := 0) rfl
 have cl1 := (hb2.up hu7.out).cell (o := 1) rfl
 have cl2 := (hb2.up hu7.out).cell (o := 2) rfl
 have cl3 := (hb2.up hu7.out).cell (o := 3) rfl
 refine wpList_plain rfl (fun Ko hKo => ?_)
 go_simp
 refine hKo _ _ ?_
 clear hKo Ko
 clear cl0 cl1 cl2 cl3
 try simp only [Act.put, nm1, nm2, nm3, i64_w]
 refine wpList_plain rfl (fun Ko hKo => ?_)
 go_simp
 refine hKo _ _ ?_
 clear hKo Ko
 try simp only [Act.put, nm1, nm2, nm3, i64_w]
 have cl0 := hb5.cell (o := 0) rfl
 have cl1 := hb5.cell (o := 1) rfl
 have cl2 := hb5.cell (o := 2) rfl
 have cl3 := hb5.cell (o := 3) rfl
 refine wpList_plain rfl (fun Ko hKo => ?_)
 go_simp
 refine hKo _ _ ?_
 clear hKo Ko
 clear cl0 cl1 cl2 cl3
 try simp only [Act.put, nm1, nm2, nm3, i64_w]
 refine step_call (wanted_none rfl) (by first | (go_simp; done) | (go_simp; rfl)) (laws_eqInt64A4.calls K a0_0 a0_1 a0_2 a0_3 a1_0 a1_1 a1_2 a1_3 t10 w6  A11.out) ?_
 rintro e w12 ⟨rfl, hu⟩
 have hu13 := Aside0.mk hu
 clear hu
 refine ⟨_, rfl, ?_⟩
 simp only [Act.put, nm1, nm2, nm3, i64_w]
 refine wpList_plain rfl (fun Ko hKo => ?_)
 go_simp
 refine hKo _ _ ?_
 clear hKo Ko
 try simp only [Act.put, nm1, nm2, nm3, i64_w]
 refine wpList_nil ?_
 (try simp only [Exit.then, Exit.inBlock, ↓reduceIte, Nat.reduceEqDiff])
 refine hK9 _ _ ?_
 by_cases c14 : (t10) = true
 ·
  rw [if_pos c14] at H
  subst c14
  replace H := Option.bind_eq_some_iff.mp H
  obtain ⟨t17, A18, H⟩ := H
  replace A18 := Aside0.mk A18
  try dsimp only at H
  refine wp_cond_false rfl ?_
  refine wp_skip ?_
  (try simp only [Exit.then, Exit.inBlock, ↓reduceIte, Nat.reduceEqDiff])
  refine hK8 _ _ ?_
  refine wp_seq_k (fun K15 hK15 => ?_)
  refine wp_seq_k (fun K16 hK16 => ?_)
  refine wp_region_lit ?_
  refine wpList_plain rfl (fun Ko hKo => ?_)
  go_simp
  refine hKo _ _ ?_
  clear hKo Ko
  try simp only [Act.put, nm1, nm2, nm3, i64_w]
  have cl0 := (hb2.up (hu7.out.trans hu13.out)).cell (o := 4) rfl
  have cl1 := (hb2.up (hu7.out.trans hu13.out)).cell (o := 5) rfl
  refine wpList_plain rfl (fun Ko hKo => ?_)
  go_simp
  refine hKo _ _ ?_
  clear hKo Ko
  clear cl0 cl1
  try simp only [Act.put, nm1, nm2, nm3, i64_w]
  refine wpList_plain rfl (fun Ko hKo => ?_)
  go_simp
  refine hKo _ _ ?_
  clear hKo Ko
  try simp only [Act.put, nm1, nm2, nm3, i64_w]
  have cl0 := (hb5.up hu13.out).cell (o := 4) rfl
  have cl1 := (hb5.up hu13.out).cell (o := 5) rfl
  refine wpList_plain rfl (fun Ko hKo => ?_)
  go_simp
  refine hKo _ _ ?_
  clear hKo Ko
  clear cl0 cl1
  try simp only [Act.put, nm1, nm2, nm3, i64_w]
  refine step_call (wanted_none rfl) (by first | (go_simp; done) | (go_simp; rfl)) (laws_eqPoint.calls K a0_4 a0_5 a1_4 a1_5 t17 w12  A18.out) ?_
  rintro e w19 ⟨rfl, hu⟩
  have hu20 := Aside0.mk hu
  clear hu
  refine ⟨_, rfl, ?_⟩
  simp only [Act.put, nm1, nm2, nm3, i64_w]
  refine wpList_plain rfl (fun Ko hKo => ?_)
  go_simp
  refine hKo _ _ ?_
  clear hKo Ko
  try simp only [Act.put, nm1, nm2, nm3, i64_w]
  refine wpList_nil ?_
  (try simp only [Exit.then, Exit.inBlock, ↓reduceIte, Nat.reduceEqDiff])
  refine hK16 _ _ ?_
  have hm22 := Aside0.mk (Nat.le_trans ((Nat.le_trans ((Nat.le_trans (hu4.out.size) hu7.out.size)) hu13.out.size)) hu20.out.size)
  by_cases c21 : (t17) = true
  ·
   rw [if_pos c21] at H
   subst c21
   obtain rfl := Option.some.inj H
   refine wp_cond_false rfl ?_
   refine wp_skip ?_
   (try simp only [Exit.then, Exit.inBlock, ↓reduceIte, Nat.reduceEqDiff])
   refine hK15 _ _ ?_
   refine wp_seq_k (fun K23 hK23 => ?_)
   refine wp_region_lit ?_
   refine wpList_plain rfl (fun Ko hKo => ?_)
   go_simp
   refine hKo _ _ ?_
   clear hKo Ko
   try simp only [Act.put, nm1, nm2, nm3, i64_w]
   refine wpList_nil ?_
   (try simp only [Exit.then, Exit.inBlock, ↓reduceIte, Nat.reduceEqDiff])
   refine hK23 _ _ ?_
   refine wp_ret ?_
   (try simp only [Exit.then, Exit.inBlock, ↓reduceIte, Nat.reduceEqDiff])
   refine hQf _ _ _ ?_
   exact bodyPost_ret (v := .bool true) (by first | rfl | (simp [results, Try.results22, go_sem]; done) | (simp [results, Try.results22, go_sem]; rfl)) rfl ⟨rfl, (((hu4.out.trans hu7.out).trans hu13.out).trans hu20.out)⟩
  ·
   rw [if_neg c21] at H
   replace c21 := Bool.eq_false_iff.mpr c21
   subst c21
   obtain rfl := Option.some.inj H
   refine wp_cond_true rfl ?_
   refine wp_seq_k (fun K24 hK24 => ?_)
   refine wp_region_lit ?_
   refine wpList_plain rfl (fun Ko hKo => ?_)
   go_simp
   refine hKo _ _ ?_
   clear hKo Ko
   try simp only [Act.put, nm1, nm2, nm3, i64_w]
   refine wpList_nil ?_
   (try simp only [Exit.then, Exit.inBlock, ↓reduceIte, Nat.reduceEqDiff])
   refine hK24 _ _ ?_
   refine wp_ret ?_
   (try simp only [Exit.then, Exit.inBlock, ↓reduceIte, Nat.reduceEqDiff])
   refine hQf _ _ _ ?_
   exact bodyPost_ret (v := .bool false) (by first | rfl | (simp [results, Try.results22, go_sem]; done) | (simp [results, Try.results22, go_sem]; rfl)) rfl ⟨rfl, (((hu4.out.trans hu7.out).trans hu13.out).trans hu20.out)⟩
 ·
  rw [if_neg c14] at H
  replace c14 := Bool.eq_false_iff.mpr c14
  subst c14
  obtain rfl := Option.some.inj H
  refine wp_cond_true rfl ?_
  refine wp_seq_k (fun K25 hK25 => ?_)
  refine wp_region_lit ?_
  refine wpList_plain rfl (fun Ko hKo => ?_)
  go_simp
  refine hKo _ _ ?_
  clear hKo Ko
  try simp only [Act.put, nm1, nm2, nm3, i64_w]
  refine wpList_nil ?_
  (try simp only [Exit.then, Exit.inBlock, ↓reduceIte, Nat.reduceEqDiff])
  refine hK25 _ _ ?_
  refine wp_ret ?_
  (try simp only [Exit.then, Exit.inBlock, ↓reduceIte, Nat.reduceEqDiff])
  refine hQf _ _ _ ?_
  exact bodyPost_ret (v := .bool false) (by first | rfl | (simp [results, Try.results22, go_sem]; done) | (simp [results, Try.results22, go_sem]; rfl)) rfl ⟨rfl, ((hu4.out.trans hu7.out).trans hu13.out)⟩

set_option maxHeartbeats 40000000 in
set_option maxRecDepth 100000 in
theorem laws_eqMoveS.calls (K : Nat) (a0_A : Option Addr) (a0_c : Nat) (a0 : List (Int × Int × Int × Int × Int × Int)) (a1_A : Option Addr) (a1_c : Nat) (a1 : List (Int × Int × Int × Int × Int × Int)) (r0 : Bool) (w : World) (ha0 : Rd e6 w a0_A a0) (ha1 : Rd e6 w a1_A a1) (h : laws_eqMoveS.f K a0 a1 = some (r0)) :
    Calls Try.prog 40 #[.slice a0_A a0.length a0_c, .slice a1_A a1.length a1_c] w fun e w' => e = .returned (.bool r0) ∧ Up w w' := by
 have H : ((if ((a0.length : Int) == (a1.length : Int)) = true then (laws_eqMoveS.l0 K a0 a1 K 0) else some false) : Option (Bool)) = some (r0) := h
 clear h
 go_enter Try.func40, Try.ntmps40
 refine wp_hide (fun Qf hQf => ?_)
 refine wp_seq_k (fun K1 hK1 => ?_)
 refine wp_region_lit ?_
 refine wpList_plain rfl (fun Ko hKo => ?_)
 go_simp
 refine hKo _ _ ?_
 clear hKo Ko
 try simp only [Act.put, nm1, nm2, nm3, i64_w]
 refine wpList_nil ?_
 (try simp only [Exit.then, Exit.inBlock, ↓reduceIte, Nat.reduceEqDiff])
 refine hK1 _ _ ?_
 refine wp_seq_k (fun K2 hK2 => ?_)
 refine wp_seq_k (fun K3 hK3 => ?_)
 refine wp_region_lit ?_
 refine wpList_plain rfl (fun Ko hKo => ?_)
 go_simp
 refine hKo _ _ ?_
 clear hKo Ko
 try simp only [Act.put, nm1, nm2, nm3, i64_w]
 refine wpList_plain rfl (fun Ko hKo => ?_)
 go_simp
 refine hKo _ _ ?_
 clear hKo Ko
 try simp only [Act.put, nm1, nm2, nm3, i64_w]
 refine wpList_plain rfl (fun Ko hKo => ?_)
 go_simp
 refine hKo _ _ ?_
 clear hKo Ko
 try simp only [Act.put, nm1, nm2, nm3, i64_w]
 refine wpList_plain rfl (fun Ko hKo => ?_)
 go_simp
 refine hKo _ _ ?_
 clear hKo Ko
 try simp only [Act.put, nm1, nm2, nm3, i64_w]
 refine wpList_plain rfl (fun Ko hKo => ?_)
 go_simp
 refine hKo _ _ ?_
 clear hKo Ko
 try simp only [Act.put, nm1, nm2, nm3, i64_w]
 refine wpList_nil ?_
 (try simp only [Exit.then, Exit.inBlock, ↓reduceIte, Nat.reduceEqDiff])
 refine hK3 _ _ ?_
 by_cases c4 : ((a0.length : Int) == (a1.length : Int)) = true
 ·
  rw [if_pos c4] at H
  have c4n : ((a0.length : Int) != (a1.length : Int)) = false := by rw [bne, c4]; rfl
  try simp only [c4, c4n, Bool.not_true, Bool.not_false]
  refine wp_cond_false rfl ?_
  refine wp_skip ?_
  (try simp only [Exit.then, Exit.inBlock, ↓reduceIte, Nat.reduceEqDiff])
  refine hK2 _ _ ?_
  refine wp_seq_k (fun K5 hK5 => ?_)
  refine wp_seq_k (fun K6 hK6 => ?_)
  refine wp_region_lit ?_
  refine wpList_plain rfl (fun Ko hKo => ?_)
  go_simp
  refine hKo _ _ ?_
  clear hKo Ko
  try simp only [Act.put, nm1, nm2, nm3, i64_w]
  refine wpList_nil ?_
  (try simp only [Exit.then, Exit.inBlock, ↓reduceIte, Nat.reduceEqDiff])
  refine hK6 _ _ ?_
  refine wp_block ?_
  have HL11 := Aside0.mk H
  clear H
  go_loopg [5] K (fun kq v5 w' => ∃ (x7 : Int), v5 = .int .i64 x7 ∧ Aside0 (laws_eqMoveS.l0 K a0 a1 kq x7 = some (r0)) ∧ Aside0 (kq ≤ K) ∧ Aside0 (Up w w') ∧ Aside0 (w.heap.size ≤ w'.heap.size))
  case atStart => exact ⟨0, (by first | rfl | simp), HL11, ⟨Nat.le_refl _⟩, ⟨(Up.refl _)⟩, ⟨Nat.le_refl _⟩⟩
  case round =>
   rename_i J15 K16 hJ15 hK16
   obtain ⟨x7, rfl, HL14, hk13, hu9, hz10⟩ := hrel
   obtain ⟨w8, rfl⟩ : ∃ wo : World, wo = wr := ⟨_, rfl⟩
   obtain ⟨k12, rfl⟩ | rfl : (∃ k, gk = k + 1) ∨ gk = 0 := by rcases gk with _ | k; exact .inr rfl; exact .inl ⟨k, rfl⟩
   case inr => exact absurd HL14.out (by simp [laws_eqMoveS.l0])
   have H := HL14.out
   clear HL14
   rw [laws_eqMoveS.l0] at H
   refine wp_seq_k (fun K17 hK17 => ?_)
   refine wp_seq_k (fun K18 hK18 => ?_)
   refine wp_region_lit ?_
   refine wpList_plain rfl (fun Ko hKo => ?_)
   go_simp
   refine hKo _ _ ?_
   clear hKo Ko
   try simp only [Act.put, nm1, nm2, nm3, i64_w]
   refine wpList_plain rfl (fun Ko hKo => ?_)
   go_simp
   refine hKo _ _ ?_
   clear hKo Ko
   try simp only [Act.put, nm1, nm2, nm3, i64_w]
   refine wpList_plain rfl (fun Ko hKo => ?_)
   go_simp
   refine hKo _ _ ?_
   clear hKo Ko
   try simp only [Act.put, nm1, nm2, nm3, i64_w]
   refine wpList_plain rfl (fun Ko hKo => ?_)
   go_simp
   refine hKo _ _ ?_
   clear hKo Ko
   try simp only [Act.put, nm1, nm2, nm3, i64_w]
   refine wpList_nil ?_
   (try simp only [Exit.then, Exit.inBlock, ↓reduceIte, Nat.reduceEqDiff])
   refine hK18 _ _ ?_
   by_cases c19 : (decide (x7 < (a0.length : Int))) = true
   ·
    rw [if_pos c19] at H
    replace H := Option.bind_eq_some_iff.mp H
    obtain ⟨⟨t22, t23, t24, t25, t26, t27⟩, A28, H⟩ := H
    replace A28 := Aside0.mk A28
    try dsimp only at H
    replace H := Option.bind_eq_some_iff.mp H
    obtain ⟨⟨t33, t34, t35, t36, t37, t38⟩, A39, H⟩ := H
    replace A39 := Aside0.mk A39
    try dsimp only at H
    replace H := Option.bind_eq_some_iff.mp H
    obtain ⟨t44, A45, H⟩ := H
    replace A45 := Aside0.mk A45
    try dsimp only at H
    try simp only [c19, Bool.not_true, Bool.not_false]
    refine wp_cond_true rfl ?_
    refine wp_skip ?_
    (try simp only [Exit.then, Exit.inBlock, ↓reduceIte, Nat.reduceEqDiff])
    refine hK17 _ _ ?_
    refine wp_seq_k (fun K20 hK20 => ?_)
    refine wp_block ?_
    refine wp_seq_k (fun K21 hK21 => ?_)
    obtain ⟨ad29, hat, he⟩ := rd_at (ha0.up hu9.out) A28.out
    have he30 := Aside0.mk he
    have hat32 := Aside0.mk hat
    clear he hat
    obtain ⟨ad40, hat, he⟩ := rd_at (ha1.up hu9.out) A39.out
    have he41 := Aside0.mk he
    have hat43 := Aside0.mk hat
    clear he hat
    refine' wp_region_up 10 [Slot.det _, Slot.det _, Slot.det (.pointer (some ad29)), Slot.det _, Slot.det _, Slot.det _, Slot.det (.pointer (some ad40)), Slot.det _, Slot.det (.bool t44), Slot.det _] (by kernel_rfl) (by kernel_rfl) ?main
    case main =>
     simp only [List.take_succ_cons, List.take_zero]
     refine wpK_ops rfl (fun w1 hu => ?_) ?_
     · clear hu
       go_simp
       first | done | rfl
     simp only [Act.put, nm1, nm2, nm3, i64_w]
     refine wpK_ops rfl (fun w1 hu => ?_) ?_
     · clear hu
       go_simp
       first | done | rfl
     simp only [Act.put, nm1, nm2, nm3, i64_w]
     refine wpK_ops rfl (fun w1 hu => ?_) ?_
     · exact quiet_index e6 (T := 30) rfl (by kernel_rfl) (by kernel_rfl) rfl rfl rfl hat32.out A28.out
     simp only [Act.put, nm1, nm2, nm3, i64_w]
     refine wpK_ops rfl (fun w1 hu => ?_) ?_
     · have cl0 := he30.out 0 _ rfl
       rw [addr_add0] at cl0
       replace cl0 := (((Up.refl _).drew.trans hu)).kept cl0
       have cl1 : World.cell? _ ⟨ad29.block, ad29.off + 1, none⟩ = some _ := he30.out 1 _ rfl
       replace cl1 := (((Up.refl _).drew.trans hu)).kept cl1
       have cl2 : World.cell? _ ⟨ad29.block, ad29.off + 2, none⟩ = some _ := he30.out 2 _ rfl
       replace cl2 := (((Up.refl _).drew.trans hu)).kept cl2
       have cl3 : World.cell? _ ⟨ad29.block, ad29.off + 3, none⟩ = some _ := he30.out 3 _ rfl
       replace cl3 := (((Up.refl _).drew.trans hu)).kept cl3
       have cl4 : World.cell? _ ⟨ad29.block, ad29.off + 4, none⟩ = some _ := he30.out 4 _ rfl
       replace cl4 := (((Up.refl _).drew.trans hu)).kept cl4
       have cl5 : World.cell? _ ⟨ad29.block, ad29.off + 5, none⟩ = some _ := he30.out 5 _ rfl
       replace cl5 := (((Up.refl _).drew.trans hu)).kept cl5
       go_simp
       first | done | rfl
     simp only [Act.put, nm1, nm2, nm3, i64_w]
     refine wpK_ops rfl (fun w1 hu => ?_) ?_
     · clear hu
       go_simp
       first | done | rfl
     simp only [Act.put, nm1, nm2, nm3, i64_w]
     refine wpK_ops rfl (fun w1 hu => ?_) ?_
     · clear hu
       go_simp
       first | done | rfl
     simp only [Act.put, nm1, nm2, nm3, i64_w]
     refine wpK_ops rfl (fun w1 hu => ?_) ?_
     · exact quiet_index e6 (T := 30) rfl (by kernel_rfl) (by kernel_rfl) rfl rfl rfl hat43.out A39.out
     simp only [Act.put, nm1, nm2, nm3, i64_w]
     refine wpK_ops rfl (fun w1 hu => ?_) ?_
     · have cl0 := he41.out 0 _ rfl
       rw [addr_add0] at cl0
       replace cl0 := (((Up.refl _).drew.trans hu)).kept cl0
       have cl1 : World.cell? _ ⟨ad40.block, ad40.off + 1, none⟩ = some _ := he41.out 1 _ rfl
       replace cl1 := (((Up.refl _).drew.trans hu)).kept cl1
       have cl2 : World.cell? _ ⟨ad40.block, ad40.off + 2, none⟩ = some _ := he41.out 2 _ rfl
       replace cl2 := (((Up.refl _).drew.trans hu)).kept cl2
       have cl3 : World.cell? _ ⟨ad40.block, ad40.off + 3, none⟩ = some _ := he41.out 3 _ rfl
       replace cl3 := (((Up.refl _).drew.trans hu)).kept cl3
       have cl4 : World.cell? _ ⟨ad40.block, ad40.off + 4, none⟩ = some _ := he41.out 4 _ rfl
       replace cl4 := (((Up.refl _).drew.trans hu)).kept cl4
       have cl5 : World.cell? _ ⟨ad40.block, ad40.off + 5, none⟩ = some _ := he41.out 5 _ rfl
       replace cl5 := (((Up.refl _).drew.trans hu)).kept cl5
       go_simp
       first | done | rfl
     simp only [Act.put, nm1, nm2, nm3, i64_w]
     refine wpK_ops rfl (fun w1 hu => ?_) ?_
     · have hcl := (laws_eqMove.calls K t22 t23 t24 t25 t26 t27 t33 t34 t35 t36 t37 t38 t44 w1  A45.out)
       clear hu
       replace hcl := Aside0.mk hcl
       go_simp
       exact hcl.out
     simp only [Act.put, nm1, nm2, nm3, i64_w]
     refine wpK_ops rfl (fun w1 hu => ?_) ?_
     · clear hu
       go_simp
       first | done | rfl
     simp only [Act.put, nm1, nm2, nm3, i64_w]
     refine wpK_nil ?_
     intro w46 hu hap
     simp only [List.drop_succ_cons, List.drop_zero]
     replace hu := (Up.refl _).drew.trans hu
     clear hap
     have hu47 := Aside0.mk hu
     clear hu
     refine wpList_nil ?_
     (try simp only [Exit.then, Exit.inBlock, ↓reduceIte, Nat.reduceEqDiff])
     refine hK21 _ _ ?_
     by_cases c48 : (t44) = true
     ·
      rw [if_pos c48] at H
      subst c48
      have HL49 := Aside0.mk H
      clear H
      refine wp_cond_false rfl ?_
      refine wp_skip ?_
      (try simp only [Exit.then, Exit.inBlock, ↓reduceIte, Nat.reduceEqDiff])
      refine hK20 _ _ ?_
      refine wp_region_lit ?_
      refine wpList_plain rfl (fun Ko hKo => ?_)
      go_simp
      refine hKo _ _ ?_
      clear hKo Ko
      try simp only [Act.put, nm1, nm2, nm3, i64_w]
      refine wpList_plain rfl (fun Ko hKo => ?_)
      go_simp
      refine hKo _ _ ?_
      clear hKo Ko
      try simp only [Act.put, nm1, nm2, nm3, i64_w]
      refine wpList_plain rfl (fun Ko hKo => ?_)
      go_simp
      refine hKo _ _ ?_
      clear hKo Ko
      try simp only [Act.put, nm1, nm2, nm3, i64_w]
      refine wpList_nil ?_
      (try simp only [Exit.then, Exit.inBlock, ↓reduceIte, Nat.reduceEqDiff])
      refine hK16 _ _ ?_
      go_roundg k12
      case measure => exact Nat.lt_succ_self _
      case rel => exact ⟨wrap64 (x7 + 1), (by first | rfl | simp), HL49, ⟨by have := hk13.out; omega⟩, ⟨(hu9.out.trans hu47.out)⟩, ⟨(Nat.le_trans ((Nat.le_trans (Nat.le_refl _) hz10.out)) hu47.out.size)⟩⟩
     ·
      rw [if_neg c48] at H
      replace c48 := Bool.eq_false_iff.mpr c48
      subst c48
      obtain rfl := Option.some.inj H
      refine wp_cond_true rfl ?_
      refine wp_seq_k (fun K50 hK50 => ?_)
      refine wp_region_lit ?_
      refine wpList_plain rfl (fun Ko hKo => ?_)
      go_simp
      refine hKo _ _ ?_
      clear hKo Ko
      try simp only [Act.put, nm1, nm2, nm3, i64_w]
      refine wpList_nil ?_
      (try simp only [Exit.then, Exit.inBlock, ↓reduceIte, Nat.reduceEqDiff])
      refine hK50 _ _ ?_
      refine wp_ret ?_
      (try simp only [Exit.then, Exit.inBlock, ↓reduceIte, Nat.reduceEqDiff])
      refine hQf _ _ _ ?_
      exact bodyPost_ret (v := .bool false) (by first | rfl | (simp [results, Try.results40, go_sem]; done) | (simp [results, Try.results40, go_sem]; rfl)) rfl ⟨rfl, (hu9.out.trans hu47.out)⟩
   ·
    rw [if_neg c19] at H
    replace c19 := Bool.eq_false_iff.mpr c19
    obtain rfl := Option.some.inj H
    try simp only [c19, Bool.not_true, Bool.not_false]
    refine wp_cond_false rfl ?_
    refine wp_exit ?_
    (try simp only [Exit.then, Exit.inBlock, ↓reduceIte, Nat.reduceEqDiff])
    refine hK5 _ _ ?_
    refine wp_seq_k (fun K51 hK51 => ?_)
    refine wp_region_lit ?_
    refine wpList_plain rfl (fun Ko hKo => ?_)
    go_simp
    refine hKo _ _ ?_
    clear hKo Ko
    try simp only [Act.put, nm1, nm2, nm3, i64_w]
    refine wpList_nil ?_
    (try simp only [Exit.then, Exit.inBlock, ↓reduceIte, Nat.reduceEqDiff])
    refine hK51 _ _ ?_
    refine wp_ret ?_
    (try simp only [Exit.then, Exit.inBlock, ↓reduceIte, Nat.reduceEqDiff])
    refine hQf _ _ _ ?_
    exact bodyPost_ret (v := .bool true) (by first | rfl | (simp [results, Try.results40, go_sem]; done) | (simp [results, Try.results40, go_sem]; rfl)) rfl ⟨rfl, hu9.out⟩
 ·
  rw [if_neg c4] at H
  replace c4 := Bool.eq_false_iff.mpr c4
  have c4n : ((a0.length : Int) != (a1.length : Int)) = true := by rw [bne, c4]; rfl
  have c4p : ¬ (a0.length : Int) = (a1.length : Int) := fun e => by simp [e] at c4
  obtain rfl := Option.some.inj H
  try simp only [c4, c4n, Bool.not_true, Bool.not_false]
  refine wp_cond_true rfl ?_
  refine wp_seq_k (fun K52 hK52 => ?_)
  refine wp_region_lit ?_
  refine wpList_plain rfl (fun Ko hKo => ?_)
  go_simp
  refine hKo _ _ ?_
  clear hKo Ko
  try simp only [Act.put, nm1, nm2, nm3, i64_w]
  refine wpList_nil ?_
  (try simp only [Exit.then, Exit.inBlock, ↓reduceIte, Nat.reduceEqDiff])
  refine hK52 _ _ ?_
  refine wp_ret ?_
  (try simp only [Exit.then, Exit.inBlock, ↓reduceIte, Nat.reduceEqDiff])
  refine hQf _ _ _ ?_
  exact bodyPost_ret (v := .bool false) (by first | rfl | (simp [results, Try.results40, go_sem]; done) | (simp [results, Try.results40, go_sem]; rfl)) rfl ⟨rfl, (Up.refl _)⟩

set_option maxHeartbeats 40000000 in
set_option maxRecDepth 100000 in
theorem laws_markMoveS.calls (K : Nat) (a0_A : Option Addr) (a0_c : Nat) (a0_B : Nat) (a0 : List (Int × Int × Int × Int × Int × Int)) (a1 : Int) (r0 : Int) (r1 : List (Int × Int × Int × Int × Int × Int)) (w : World) (ha0 : Own e6 30 w a0_B (.slice a0_A a0.length a0_c) a0) (h : laws_markMoveS.f K a0 a1 = some (r0, r1)) :
    Calls Try.prog 41 #[.slice a0_A a0.length a0_c, .int .i64 a1] w fun e w' => e = .returned (.int .i64 r0) ∧ Own e6 30 w' a0_B (.slice a0_A r1.length a0_c) r1 ∧ Aside0 (a0.length = r1.length) ∧ Grow (.slice a0_A a0.length a0_c) w w' := by
 have H : ((laws_markMoveS.l0 K a0 K a1 0 a0) : Option (Int × List (Int × Int × Int × Int × Int × Int))) = some (r0, r1) := h
 clear h
 go_enter Try.func41, Try.ntmps41
 refine wp_hide (fun Qf hQf => ?_)
 refine wp_seq_k (fun K1 hK1 => ?_)
 refine wp_region_lit ?_
 refine wpList_plain rfl (fun Ko hKo => ?_)
 go_simp
 refine hKo _ _ ?_
 clear hKo Ko
 try simp only [Act.put, nm1, nm2, nm3, i64_w]
 refine wpList_nil ?_
 (try simp only [Exit.then, Exit.inBlock, ↓reduceIte, Nat.reduceEqDiff])
 refine hK1 _ _ ?_
 refine wp_seq_k (fun K2 hK2 => ?_)
 refine wp_seq_k (fun K3 hK3 => ?_)
 refine wp_region_lit ?_
 refine wpList_plain rfl (fun Ko hKo => ?_)
 go_simp
 refine hKo _ _ ?_
 clear hKo Ko
 try simp only [Act.put, nm1, nm2, nm3, i64_w]
 refine wpList_nil ?_
 (try simp only [Exit.then, Exit.inBlock, ↓reduceIte, Nat.reduceEqDiff])
 refine hK3 _ _ ?_
 refine wp_block ?_
 have HL10 := Aside0.mk H
 clear H
 go_loopg [1, 5] K (fun kq v1 v5 w' => ∃ (x4 : Int) (x5 : Int) (x6 : List (Int × Int × Int × Int × Int × Int)), v1 = .int .i64 x4 ∧ v5 = .int .i64 x5 ∧ Aside0 (laws_markMoveS.l0 K a0 kq x4 x5 x6 = some (r0, r1)) ∧ Aside0 (kq ≤ K) ∧ Aside0 (Grow (.slice a0_A a0.length a0_c) w w') ∧ Aside0 (w.heap.size ≤ w'.heap.size) ∧ Own e6 30 w' a0_B (.slice a0_A x6.length a0_c) x6 ∧ Aside0 (a0.length = x6.length))
 case atStart => exact ⟨a1, 0, a0, (by first | rfl | simp), (by first | rfl | simp), HL10, ⟨Nat.le_refl _⟩, ⟨(Grow.refl (.slice a0_A a0.length a0_c) _)⟩, ⟨Nat.le_refl _⟩, ha0, ⟨rfl⟩⟩
 case round =>
  rename_i J16 K17 hJ16 hK17
  obtain ⟨x4, x5, x6, rfl, rfl, HL15, hk14, hu8, hz9, h11, hl12⟩ := hrel
  obtain ⟨w7, rfl⟩ : ∃ wo : World, wo = wr := ⟨_, rfl⟩
  obtain ⟨k13, rfl⟩ | rfl : (∃ k, gk = k + 1) ∨ gk = 0 := by rcases gk with _ | k; exact .inr rfl; exact .inl ⟨k, rfl⟩
  case inr => exact absurd HL15.out (by simp [laws_markMoveS.l0])
  have H := HL15.out
  clear HL15
  rw [laws_markMoveS.l0] at H
  refine wp_seq_k (fun K18 hK18 => ?_)
  refine wp_seq_k (fun K19 hK19 => ?_)
  refine wp_region_lit ?_
  refine wpList_plain rfl (fun Ko hKo => ?_)
  go_simp
  refine hKo _ _ ?_
  clear hKo Ko
  try simp only [Act.put, nm1, nm2, nm3, i64_w]
  refine wpList_plain rfl (fun Ko hKo => ?_)
  go_simp
  refine hKo _ _ ?_
  clear hKo Ko
  try simp only [Act.put, nm1, nm2, nm3, i64_w]
  refine wpList_plain rfl (fun Ko hKo => ?_)
  go_simp
  refine hKo _ _ ?_
  clear hKo Ko
  try simp only [Act.put, nm1, nm2, nm3, i64_w]
  refine wpList_plain rfl (fun Ko hKo => ?_)
  go_simp
  refine hKo _ _ ?_
  clear hKo Ko
  try simp only [Act.put, nm1, nm2, nm3, i64_w]
  refine wpList_nil ?_
  (try simp only [Exit.then, Exit.inBlock, ↓reduceIte, Nat.reduceEqDiff])
  refine hK19 _ _ ?_
  by_cases c20 : (decide (x5 < (a0.length : Int))) = true
  ·
   rw [if_pos c20] at H
   replace H := Option.bind_eq_some_iff.mp H
   obtain ⟨⟨t29, t30, t31, t32, t33, t34⟩, A35, H⟩ := H
   replace A35 := Aside0.mk A35
   try dsimp only at H
   replace H := Option.bind_eq_some_iff.mp H
   obtain ⟨⟨t50, t51, t52, t53, t54, t55⟩, A56, H⟩ := H
   replace A56 := Aside0.mk A56
   try dsimp only at H
   replace H := Option.bind_eq_some_iff.mp H
   obtain ⟨⟨t71, t72, t73, t74, t75, t76⟩, A77, H⟩ := H
   replace A77 := Aside0.mk A77
   try dsimp only at H
   replace H := Option.bind_eq_some_iff.mp H
   obtain ⟨⟨t92, t93, t94, t95, t96, t97⟩, A98, H⟩ := H
   replace A98 := Aside0.mk A98
   try dsimp only at H
   replace H := Option.bind_eq_some_iff.mp H
   obtain ⟨⟨t117, t118, t119, t120, t121, t122⟩, A123, H⟩ := H
   replace A123 := Aside0.mk A123
   try dsimp only at H
   replace H := Option.bind_eq_some_iff.mp H
   obtain ⟨⟨t138, t139, t140, t141, t142, t143⟩, A144, H⟩ := H
   replace A144 := Aside0.mk A144
   try dsimp only at H
   have HL157 := Aside0.mk H
   clear H
   try simp only [c20, Bool.not_true, Bool.not_false]
   refine wp_cond_true rfl ?_
   refine wp_skip ?_
   (try simp only [Exit.then, Exit.inBlock, ↓reduceIte, Nat.reduceEqDiff])
   refine hK18 _ _ ?_
   refine wp_seq_k (fun K21 hK21 => ?_)
   refine wp_block ?_
   refine wp_seq_k (fun K22 hK22 => ?_)
   refine wp_seq_k (fun K23 hK23 => ?_)
   refine wp_region_lit ?_
   refine wpList_plain rfl (fun Ko hKo => ?_)
   go_simp
   refine hKo _ _ ?_
   clear hKo Ko
   try simp only [Act.put, nm1, nm2, nm3, i64_w]
   refine wpList_nil ?_
   (try simp only [Exit.then, Exit.inBlock, ↓reduceIte, Nat.reduceEqDiff])
   refine hK23 _ _ ?_
   refine wp_block ?_
   refine wp_loop_rounds 40 ?_
   refine rounds_k (fun K24 hK24 => ?_)
   refine wp_seq_k (fun K25 hK25 => ?_)
   refine wp_seq_k (fun K26 hK26 => ?_)
   refine wp_region_lit ?_
   refine wpList_plain rfl (fun Ko hKo => ?_)
   go_simp
   refine hKo _ _ ?_
   clear hKo Ko
   try simp only [Act.put, nm1, nm2, nm3, i64_w]
   refine wpList_plain rfl (fun Ko hKo => ?_)
   go_simp
   refine hKo _ _ ?_
   clear hKo Ko
   try simp only [Act.put, nm1, nm2, nm3, i64_w]
   refine wpList_nil ?_
   (try simp only [Exit.then, Exit.inBlock, ↓reduceIte, Nat.reduceEqDiff])
   refine hK26 _ _ ?_
   refine wp_cond_true rfl ?_
   refine wp_skip ?_
   (try simp only [Exit.then, Exit.inBlock, ↓reduceIte, Nat.reduceEqDiff])
   refine hK25 _ _ ?_
   refine wp_seq_k (fun K27 hK27 => ?_)
   refine wp_block ?_
   refine wp_seq_k (fun K28 hK28 => ?_)
   refine wp_region_lit ?_
   refine wpList_plain rfl (fun Ko hKo => ?_)
   go_simp
   refine hKo _ _ ?_
   clear hKo Ko
   try simp only [Act.put, nm1, nm2, nm3, i64_w]
   refine wpList_plain rfl (fun Ko hKo => ?_)
   go_simp
   refine hKo _ _ ?_
   clear hKo Ko
   try simp only [Act.put, nm1, nm2, nm3, i64_w]
   refine wpList_plain rfl (fun Ko hKo => ?_)
   go_simp
   refine hKo _ _ ?_
   clear hKo Ko
   try simp only [Act.put, nm1, nm2, nm3, i64_w]
   refine wpList_plain rfl (fun Ko hKo => ?_)
   go_simp
   refine hKo _ _ ?_
   clear hKo Ko
   try simp only [Act.put, nm1, nm2, nm3, i64_w]
   refine step_index e6 (T := 30) (wanted_none rfl) rfl (by kernel_rfl) (by kernel_rfl) rfl hl12.out rfl h11.rd A35.out ?_
   intro ad36 hat he
   have he37 := Aside0.mk he
   have hat38 := Aside0.mk hat
   clear he hat
   simp only [Act.put, nm1, nm2, nm3, i64_w]
   refine wpList_plain rfl (fun Ko hKo => ?_)
   go_simp
   refine hKo _ _ ?_
   clear hKo Ko
   try simp only [Act.put, nm1, nm2, nm3, i64_w]
   refine wpList_plain rfl (fun Ko hKo => ?_)
   go_simp
   refine hKo _ _ ?_
   clear hKo Ko
   try simp only [Act.put, nm1, nm2, nm3, i64_w]
   have hO0 := Aside0.mk h11
   have lb43 := Aside0.mk hO0.out.lt
   refine step_put e6 (T := 30) (u := .int .i64 x4) (old := (t29, t30, t31, t32, t33, t34)) (new := (x4, t30, t31, t32, t33, t34)) 0 rfl rfl rfl hat38.out (addr_add0 _).symm rfl rfl (by kernel_rfl) (by simp [Value.cells, Value.oneCell']) (Nat.le_of_ble_eq_true rfl) rfl hO0.out A35.out ?_
   intro w39 h41 hg
   have hg42 := Aside0.mk hg
   clear hO0 hg
   try simp only [Act.put, nm1, nm2, nm3, i64_w]
   have hl44 : Aside0 (a0.length = (x6.set (x5).toNat (x4, t30, t31, t32, t33, t34)).length) := Aside0.mk (hl12.out.trans (List.length_set ..).symm)
   refine wpList_nil ?_
   (try simp only [Exit.then, Exit.inBlock, ↓reduceIte, Nat.reduceEqDiff])
   refine hK28 _ _ ?_
   refine wp_region_lit ?_
   refine wpList_plain rfl (fun Ko hKo => ?_)
   go_simp
   refine hKo _ _ ?_
   clear hKo Ko
   try simp only [Act.put, nm1, nm2, nm3, i64_w]
   refine wpList_plain rfl (fun Ko hKo => ?_)
   go_simp
   refine hKo _ _ ?_
   clear hKo Ko
   try simp only [Act.put, nm1, nm2, nm3, i64_w]
   refine wpList_plain rfl (fun Ko hKo => ?_)
   go_simp
   refine hKo _ _ ?_
   clear hKo Ko
   try simp only [Act.put, nm1, nm2, nm3, i64_w]
   refine wpList_nil ?_
   (try simp only [Exit.then, Exit.inBlock, ↓reduceIte, Nat.reduceEqDiff])
   refine hK27 _ _ ?_
   refine wp_region_lit ?_
   refine wpList_plain rfl (fun Ko hKo => ?_)
   go_simp
   refine hKo _ _ ?_
   clear hKo Ko
   try simp only [Act.put, nm1, nm2, nm3, i64_w]
   refine wpList_plain rfl (fun Ko hKo => ?_)
   go_simp
   refine hKo _ _ ?_
   clear hKo Ko
   try simp only [Act.put, nm1, nm2, nm3, i64_w]
   try simp only [show wrap64 1 = 1 from wlit rfl]
   refine wpList_plain rfl (fun Ko hKo => ?_)
   go_simp
   refine hKo _ _ ?_
   clear hKo Ko
   try simp only [Act.put, nm1, nm2, nm3, i64_w]
   refine wpList_nil ?_
   (try simp only [Exit.then, Exit.inBlock, ↓reduceIte, Nat.reduceEqDiff])
   refine hK24 _ _ ?_
   refine rounds_k (fun K45 hK45 => ?_)
   refine wp_seq_k (fun K46 hK46 => ?_)
   refine wp_seq_k (fun K47 hK47 => ?_)
   refine wp_region_lit ?_
   refine wpList_plain rfl (fun Ko hKo => ?_)
   go_simp
   refine hKo _ _ ?_
   clear hKo Ko
   try simp only [Act.put, nm1, nm2, nm3, i64_w]
   refine wpList_plain rfl (fun Ko hKo => ?_)
   go_simp
   refine hKo _ _ ?_
   clear hKo Ko
   try simp only [Act.put, nm1, nm2, nm3, i64_w]
   refine wpList_nil ?_
   (try simp only [Exit.then, Exit.inBlock, ↓reduceIte, Nat.reduceEqDiff])
   refine hK47 _ _ ?_
   refine wp_cond_true rfl ?_
   refine wp_skip ?_
   (try simp only [Exit.then, Exit.inBlock, ↓reduceIte, Nat.reduceEqDiff])
   refine hK46 _ _ ?_
   refine wp_seq_k (fun K48 hK48 => ?_)
   refine wp_block ?_
   refine wp_seq_k (fun K49 hK49 => ?_)
   refine wp_region_lit ?_
   refine wpList_plain rfl (fun Ko hKo => ?_)
   go_simp
   refine hKo _ _ ?_
   clear hKo Ko
   try simp only [Act.put, nm1, nm2, nm3, i64_w]
   refine wpList_plain rfl (fun Ko hKo => ?_)
   go_simp
   refine hKo _ _ ?_
   clear hKo Ko
   try simp only [Act.put, nm1, nm2, nm3, i64_w]
   refine wpList_plain rfl (fun Ko hKo => ?_)
   go_simp
   refine hKo _ _ ?_
   clear hKo Ko
   try simp only [Act.put, nm1, nm2, nm3, i64_w]
   refine wpList_plain rfl (fun Ko hKo => ?_)
   go_simp
   refine hKo _ _ ?_
   clear hKo Ko
   try simp only [Act.put, nm1, nm2, nm3, i64_w]
   refine step_index e6 (T := 30) (wanted_none rfl) rfl (by kernel_rfl) (by kernel_rfl) rfl hl44.out rfl h41.rd A56.out ?_
   intro ad57 hat he
   have he58 := Aside0.mk he
   have hat59 := Aside0.mk hat
   clear he hat
   simp only [Act.put, nm1, nm2, nm3, i64_w]
   refine wpList_plain rfl (fun Ko hKo => ?_)
   go_simp
   refine hKo _ _ ?_
   clear hKo Ko
   try simp only [Act.put, nm1, nm2, nm3, i64_w]
   refine wpList_plain rfl (fun Ko hKo => ?_)
   go_simp
   refine hKo _ _ ?_
   clear hKo Ko
   try simp only [Act.put, nm1, nm2, nm3, i64_w]
   have hO0 := Aside0.mk h41
   have lb64 := Aside0.mk hO0.out.lt
   refine step_put e6 (T := 30) (u := .int .i64 (wrap64 (x4 + 1))) (old := (t50, t51, t52, t53, t54, t55)) (new := (t50, wrap64 (x4 + 1), t52, t53, t54, t55)) 1 rfl rfl rfl hat59.out rfl rfl rfl (by kernel_rfl) (by simp [Value.cells, Value.oneCell']) (Nat.le_of_ble_eq_true rfl) rfl hO0.out A56.out ?_
   intro w60 h62 hg
   have hg63 := Aside0.mk hg
   clear hO0 hg
   try simp only [Act.put, nm1, nm2, nm3, i64_w]
   have hl65 : Aside0 (a0.length = ((x6.set (x5).toNat (x4, t30, t31, t32, t33, t34)).set (x5).toNat (t50, wrap64 (x4 + 1), t52, t53, t54, t55)).length) := Aside0.mk (hl44.out.trans (List.length_set ..).symm)
   refine wpList_nil ?_
   (try simp only [Exit.then, Exit.inBlock, ↓reduceIte, Nat.reduceEqDiff])
   refine hK49 _ _ ?_
   refine wp_region_lit ?_
   refine wpList_plain rfl (fun Ko hKo => ?_)
   go_simp
   refine hKo _ _ ?_
   clear hKo Ko
   try simp only [Act.put, nm1, nm2, nm3, i64_w]
   refine wpList_plain rfl (fun Ko hKo => ?_)
   go_simp
   refine hKo _ _ ?_
   clear hKo Ko
   try simp only [Act.put, nm1, nm2, nm3, i64_w]
   refine wpList_plain rfl (fun Ko hKo => ?_)
   go_simp
   refine hKo _ _ ?_
   clear hKo Ko
   try simp only [Act.put, nm1, nm2, nm3, i64_w]
   refine wpList_nil ?_
   (try simp only [Exit.then, Exit.inBlock, ↓reduceIte, Nat.reduceEqDiff])
   refine hK48 _ _ ?_
   refine wp_region_lit ?_
   refine wpList_plain rfl (fun Ko hKo => ?_)
   go_simp
   refine hKo _ _ ?_
   clear hKo Ko
   try simp only [Act.put, nm1, nm2, nm3, i64_w]
   refine wpList_plain rfl (fun Ko hKo => ?_)
   go_simp
   refine hKo _ _ ?_
   clear hKo Ko
   try simp only [Act.put, nm1, nm2, nm3, i64_w]
   try simp only [show wrap64 2 = 2 from wlit rfl]
   refine wpList_plain rfl (fun Ko hKo => ?_)
   go_simp
   refine hKo _ _ ?_
   clear hKo Ko
   try simp only [Act.put, nm1, nm2, nm3, i64_w]
   refine wpList_nil ?_
   (try simp only [Exit.then, Exit.inBlock, ↓reduceIte, Nat.reduceEqDiff])
   refine hK45 _ _ ?_
   refine rounds_k (fun K66 hK66 => ?_)
   refine wp_seq_k (fun K67 hK67 => ?_)
   refine wp_seq_k (fun K68 hK68 => ?_)
   refine wp_region_lit ?_
   refine wpList_plain rfl (fun Ko hKo => ?_)
   go_simp
   refine hKo _ _ ?_
   clear hKo Ko
   try simp only [Act.put, nm1, nm2, nm3, i64_w]
   refine wpList_plain rfl (fun Ko hKo => ?_)
   go_simp
   refine hKo _ _ ?_
   clear hKo Ko
   try simp only [Act.put, nm1, nm2, nm3, i64_w]
   refine wpList_nil ?_
   (try simp only [Exit.then, Exit.inBlock, ↓reduceIte, Nat.reduceEqDiff])
   refine hK68 _ _ ?_
   refine wp_cond_true rfl ?_
   refine wp_skip ?_
   (try simp only [Exit.then, Exit.inBlock, ↓reduceIte, Nat.reduceEqDiff])
   refine hK67 _ _ ?_
   refine wp_seq_k (fun K69 hK69 => ?_)
   refine wp_block ?_
   refine wp_seq_k (fun K70 hK70 => ?_)
   refine wp_region_lit ?_
   refine wpList_plain rfl (fun Ko hKo => ?_)
   go_simp
   refine hKo _ _ ?_
   clear hKo Ko
   try simp only [Act.put, nm1, nm2, nm3, i64_w]
   refine wpList_plain rfl (fun Ko hKo => ?_)
   go_simp
   refine hKo _ _ ?_
   clear hKo Ko
   try simp only [Act.put, nm1, nm2, nm3, i64_w]
   refine wpList_plain rfl (fun Ko hKo => ?_)
   go_simp
   refine hKo _ _ ?_
   clear hKo Ko
   try simp only [Act.put, nm1, nm2, nm3, i64_w]
   refine wpList_plain rfl (fun Ko hKo => ?_)
   go_simp
   refine hKo _ _ ?_
   clear hKo Ko
   try simp only [Act.put, nm1, nm2, nm3, i64_w]
   refine step_index e6 (T := 30) (wanted_none rfl) rfl (by kernel_rfl) (by kernel_rfl) rfl hl65.out rfl h62.rd A77.out ?_
   intro ad78 hat he
   have he79 := Aside0.mk he
   have hat80 := Aside0.mk hat
   clear he hat
   simp only [Act.put, nm1, nm2, nm3, i64_w]
   refine wpList_plain rfl (fun Ko hKo => ?_)
   go_simp
   refine hKo _ _ ?_
   clear hKo Ko
   try simp only [Act.put, nm1, nm2, nm3, i64_w]
   refine wpList_plain rfl (fun Ko hKo => ?_)
   go_simp
   refine hKo _ _ ?_
   clear hKo Ko
   try simp only [Act.put, nm1, nm2, nm3, i64_w]
   have hO0 := Aside0.mk h62
   have lb85 := Aside0.mk hO0.out.lt
   refine step_put e6 (T := 30) (u := .int .i64 (wrap64 ((wrap64 (x4 + 1)) + 1))) (old := (t71, t72, t73, t74, t75, t76)) (new := (t71, t72, wrap64 ((wrap64 (x4 + 1)) + 1), t74, t75, t76)) 2 rfl rfl rfl hat80.out rfl rfl rfl (by kernel_rfl) (by simp [Value.cells, Value.oneCell']) (Nat.le_of_ble_eq_true rfl) rfl hO0.out A77.out ?_
   intro w81 h83 hg
   have hg84 := Aside0.mk hg
   clear hO0 hg
   try simp only [Act.put, nm1, nm2, nm3, i64_w]
   have hl86 : Aside0 (a0.length = (((x6.set (x5).toNat (x4, t30, t31, t32, t33, t34)).set (x5).toNat (t50, wrap64 (x4 + 1), t52, t53, t54, t55)).set (x5).toNat (t71, t72, wrap64 ((wrap64 (x4 + 1)) + 1), t74, t75, t76)).length) := Aside0.mk (hl65.out.trans (List.length_set ..).symm)
   refine wpList_nil ?_
   (try simp only [Exit.then, Exit.inBlock, ↓reduceIte, Nat.reduceEqDiff])
   refine hK70 _ _ ?_
   refine wp_region_lit ?_
   refine wpList_plain rfl (fun Ko hKo => ?_)
   go_simp
   refine hKo _ _ ?_
   clear hKo Ko
   try simp only [Act.put, nm1, nm2, nm3, i64_w]
   refine wpList_plain rfl (fun Ko hKo => ?_)
   go_simp
   refine hKo _ _ ?_
   clear hKo Ko
   try simp only [Act.put, nm1, nm2, nm3, i64_w]
   refine wpList_plain rfl (fun Ko hKo => ?_)
   go_simp
   refine hKo _ _ ?_
   clear hKo Ko
   try simp only [Act.put, nm1, nm2, nm3, i64_w]
   refine wpList_nil ?_
   (try simp only [Exit.then, Exit.inBlock, ↓reduceIte, Nat.reduceEqDiff])
   refine hK69 _ _ ?_
   refine wp_region_lit ?_
   refine wpList_plain rfl (fun Ko hKo => ?_)
   go_simp
   refine hKo _ _ ?_
   clear hKo Ko
   try simp only [Act.put, nm1, nm2, nm3, i64_w]
   refine wpList_plain rfl (fun Ko hKo => ?_)
   go_simp
   refine hKo _ _ ?_
   clear hKo Ko
   try simp only [Act.put, nm1, nm2, nm3, i64_w]
   try simp only [show wrap64 3 = 3 from wlit rfl]
   refine wpList_plain rfl (fun Ko hKo => ?_)
   go_simp
   refine hKo _ _ ?_
   clear hKo Ko
   try simp only [Act.put, nm1, nm2, nm3, i64_w]
   refine wpList_nil ?_
   (try simp only [Exit.then, Exit.inBlock, ↓reduceIte, Nat.reduceEqDiff])
   refine hK66 _ _ ?_
   refine rounds_k (fun K87 hK87 => ?_)
   refine wp_seq_k (fun K88 hK88 => ?_)
   refine wp_seq_k (fun K89 hK89 => ?_)
   refine wp_region_lit ?_
   refine wpList_plain rfl (fun Ko hKo => ?_)
   go_simp
   refine hKo _ _ ?_
   clear hKo Ko
   try simp only [Act.put, nm1, nm2, nm3, i64_w]
   refine wpList_plain rfl (fun Ko hKo => ?_)
   go_simp
   refine hKo _ _ ?_
   clear hKo Ko
   try simp only [Act.put, nm1, nm2, nm3, i64_w]
   refine wpList_nil ?_
   (try simp only [Exit.then, Exit.inBlock, ↓reduceIte, Nat.reduceEqDiff])
   refine hK89 _ _ ?_
   refine wp_cond_true rfl ?_
   refine wp_skip ?_
   (try simp only [Exit.then, Exit.inBlock, ↓reduceIte, Nat.reduceEqDiff])
   refine hK88 _ _ ?_
   refine wp_seq_k (fun K90 hK90 => ?_)
   refine wp_block ?_
   refine wp_seq_k (fun K91 hK91 => ?_)
   refine wp_region_lit ?_
   refine wpList_plain rfl (fun Ko hKo => ?_)
   go_simp
   refine hKo _ _ ?_
   clear hKo Ko
   try simp only [Act.put, nm1, nm2, nm3, i64_w]
   refine wpList_plain rfl (fun Ko hKo => ?_)
   go_simp
   refine hKo _ _ ?_
   clear hKo Ko
   try simp only [Act.put, nm1, nm2, nm3, i64_w]
   refine wpList_plain rfl (fun Ko hKo => ?_)
   go_simp
   refine hKo _ _ ?_
   clear hKo Ko
   try simp only [Act.put, nm1, nm2, nm3, i64_w]
   refine wpList_plain rfl (fun Ko hKo => ?_)
   go_simp
   refine hKo _ _ ?_
   clear hKo Ko
   try simp only [Act.put, nm1, nm2, nm3, i64_w]
   refine step_index e6 (T := 30) (wanted_none rfl) rfl (by kernel_rfl) (by kernel_rfl) rfl hl86.out rfl h83.rd A98.out ?_
   intro ad99 hat he
   have he100 := Aside0.mk he
   have hat101 := Aside0.mk hat
   clear he hat
   simp only [Act.put, nm1, nm2, nm3, i64_w]
   refine wpList_plain rfl (fun Ko hKo => ?_)
   go_simp
   refine hKo _ _ ?_
   clear hKo Ko
   try simp only [Act.put, nm1, nm2, nm3, i64_w]
   refine wpList_plain rfl (fun Ko hKo => ?_)
   go_simp
   refine hKo _ _ ?_
   clear hKo Ko
   try simp only [Act.put, nm1, nm2, nm3, i64_w]
   have hO0 := Aside0.mk h83
   have lb106 := Aside0.mk hO0.out.lt
   refine step_put e6 (T := 30) (u := .int .i64 (wrap64 ((wrap64 ((wrap64 (x4 + 1)) + 1)) + 1))) (old := (t92, t93, t94, t95, t96, t97)) (new := (t92, t93, t94, wrap64 ((wrap64 ((wrap64 (x4 + 1)) + 1)) + 1), t96, t97)) 3 rfl rfl rfl hat101.out rfl rfl rfl (by kernel_rfl) (by simp [Value.cells, Value.oneCell']) (Nat.le_of_ble_eq_true rfl) rfl hO0.out A98.out ?_
   intro w102 h104 hg
   have hg105 := Aside0.mk hg
   clear hO0 hg
   try simp only [Act.put, nm1, nm2, nm3, i64_w]
   have hl107 : Aside0 (a0.length = ((((x6.set (x5).toNat (x4, t30, t31, t32, t33, t34)).set (x5).toNat (t50, wrap64 (x4 + 1), t52, t53, t54, t55)).set (x5).toNat (t71, t72, wrap64 ((wrap64 (x4 + 1)) + 1), t74, t75, t76)).set (x5).toNat (t92, t93, t94, wrap64 ((wrap64 ((wrap64 (x4 + 1)) + 1)) + 1), t96, t97)).length) := Aside0.mk (hl86.out.trans (List.length_set ..).symm)
   refine wpList_nil ?_
   (try simp only [Exit.then, Exit.inBlock, ↓reduceIte, Nat.reduceEqDiff])
   refine hK91 _ _ ?_
   refine wp_region_lit ?_
   refine wpList_plain rfl (fun Ko hKo => ?_)
   go_simp
   refine hKo _ _ ?_
   clear hKo Ko
   try simp only [Act.put, nm1, nm2, nm3, i64_w]
   refine wpList_plain rfl (fun Ko hKo => ?_)
   go_simp
   refine hKo _ _ ?_
   clear hKo Ko
   try simp only [Act.put, nm1, nm2, nm3, i64_w]
   refine wpList_plain rfl (fun Ko hKo => ?_)
   go_simp
   refine hKo _ _ ?_
   clear hKo Ko
   try simp only [Act.put, nm1, nm2, nm3, i64_w]
   refine wpList_nil ?_
   (try simp only [Exit.then, Exit.inBlock, ↓reduceIte, Nat.reduceEqDiff])
   refine hK90 _ _ ?_
   refine wp_region_lit ?_
   refine wpList_plain rfl (fun Ko hKo => ?_)
   go_simp
   refine hKo _ _ ?_
   clear hKo Ko
   try simp only [Act.put, nm1, nm2, nm3, i64_w]
   refine wpList_plain rfl (fun Ko hKo => ?_)
   go_simp
   refine hKo _ _ ?_
   clear hKo Ko
   try simp only [Act.put, nm1, nm2, nm3, i64_w]
   try simp only [show wrap64 4 = 4 from wlit rfl]
   refine wpList_plain rfl (fun Ko hKo => ?_)
   go_simp
   refine hKo _ _ ?_
   clear hKo Ko
   try simp only [Act.put, nm1, nm2, nm3, i64_w]
   refine wpList_nil ?_
   (try simp only [Exit.then, Exit.inBlock, ↓reduceIte, Nat.reduceEqDiff])
   refine hK87 _ _ ?_
   refine rounds_k (fun K108 hK108 => ?_)
   refine wp_seq_k (fun K109 hK109 => ?_)
   refine wp_seq_k (fun K110 hK110 => ?_)
   refine wp_region_lit ?_
   refine wpList_plain rfl (fun Ko hKo => ?_)
   go_simp
   refine hKo _ _ ?_
   clear hKo Ko
   try simp only [Act.put, nm1, nm2, nm3, i64_w]
   refine wpList_plain rfl (fun Ko hKo => ?_)
   go_simp
   refine hKo _ _ ?_
   clear hKo Ko
   try simp only [Act.put, nm1, nm2, nm3, i64_w]
   refine wpList_nil ?_
   (try simp only [Exit.then, Exit.inBlock, ↓reduceIte, Nat.reduceEqDiff])
   refine hK110 _ _ ?_
   refine wp_cond_false rfl ?_
   refine wp_exit ?_
   (try simp only [Exit.then, Exit.inBlock, ↓reduceIte, Nat.reduceEqDiff])
   refine hK22 _ _ ?_
   refine wp_seq_k (fun K111 hK111 => ?_)
   refine wp_region_lit ?_
   refine wpList_plain rfl (fun Ko hKo => ?_)
   go_simp
   refine hKo _ _ ?_
   clear hKo Ko
   try simp only [Act.put, nm1, nm2, nm3, i64_w]
   refine wpList_nil ?_
   (try simp only [Exit.then, Exit.inBlock, ↓reduceIte, Nat.reduceEqDiff])
   refine hK111 _ _ ?_
   refine wp_block ?_
   refine wp_loop_rounds 40 ?_
   refine rounds_k (fun K112 hK112 => ?_)
   refine wp_seq_k (fun K113 hK113 => ?_)
   refine wp_seq_k (fun K114 hK114 => ?_)
   refine wp_region_lit ?_
   refine wpList_plain rfl (fun Ko hKo => ?_)
   go_simp
   refine hKo _ _ ?_
   clear hKo Ko
   try simp only [Act.put, nm1, nm2, nm3, i64_w]
   refine wpList_plain rfl (fun Ko hKo => ?_)
   go_simp
   refine hKo _ _ ?_
   clear hKo Ko
   try simp only [Act.put, nm1, nm2, nm3, i64_w]
   refine wpList_nil ?_
   (try simp only [Exit.then, Exit.inBlock, ↓reduceIte, Nat.reduceEqDiff])
   refine hK114 _ _ ?_
   refine wp_cond_true rfl ?_
   refine wp_skip ?_
   (try simp only [Exit.then, Exit.inBlock, ↓reduceIte, Nat.reduceEqDiff])
   refine hK113 _ _ ?_
   refine wp_seq_k (fun K115 hK115 => ?_)
   refine wp_block ?_
   refine wp_seq_k (fun K116 hK116 => ?_)
   refine wp_region_lit ?_
   refine wpList_plain rfl (fun Ko hKo => ?_)
   go_simp
   refine hKo _ _ ?_
   clear hKo Ko
   try simp only [Act.put, nm1, nm2, nm3, i64_w]
   refine wpList_plain rfl (fun Ko hKo => ?_)
   go_simp
   refine hKo _ _ ?_
   clear hKo Ko
   try simp only [Act.put, nm1, nm2, nm3, i64_w]
   refine wpList_plain rfl (fun Ko hKo => ?_)
   go_simp
   refine hKo _ _ ?_
   clear hKo Ko
   try simp only [Act.put, nm1, nm2, nm3, i64_w]
   refine wpList_plain rfl (fun Ko hKo => ?_)
   go_simp
   refine hKo _ _ ?_
   clear hKo Ko
   try simp only [Act.put, nm1, nm2, nm3, i64_w]
   refine step_index e6 (T := 30) (wanted_none rfl) rfl (by kernel_rfl) (by kernel_rfl) rfl hl107.out rfl h104.rd A123.out ?_
   intro ad124 hat he
   have he125 := Aside0.mk he
   have hat126 := Aside0.mk hat
   clear he hat
   simp only [Act.put, nm1, nm2, nm3, i64_w]
   refine wpList_plain rfl (fun Ko hKo => ?_)
   go_simp
   refine hKo _ _ ?_
   clear hKo Ko
   try simp only [Act.put, nm1, nm2, nm3, i64_w]
   refine wpList_plain rfl (fun Ko hKo => ?_)
   go_simp
   refine hKo _ _ ?_
   clear hKo Ko
   try simp only [Act.put, nm1, nm2, nm3, i64_w]
   have hO0 := Aside0.mk h104
   have lb131 := Aside0.mk hO0.out.lt
   refine step_put e6 (T := 30) (u := .int .i64 (wrap64 ((wrap64 ((wrap64 ((wrap64 (x4 + 1)) + 1)) + 1)) + 1))) (old := (t117, t118, t119, t120, t121, t122)) (new := (t117, t118, t119, t120, wrap64 ((wrap64 ((wrap64 ((wrap64 (x4 + 1)) + 1)) + 1)) + 1), t122)) 4 rfl rfl rfl hat126.out rfl rfl rfl (by kernel_rfl) (by simp [Value.cells, Value.oneCell']) (Nat.le_of_ble_eq_true rfl) rfl hO0.out A123.out ?_
   intro w127 h129 hg
   have hg130 := Aside0.mk hg
   clear hO0 hg
   try simp only [Act.put, nm1, nm2, nm3, i64_w]
   have hl132 : Aside0 (a0.length = (((((x6.set (x5).toNat (x4, t30, t31, t32, t33, t34)).set (x5).toNat (t50, wrap64 (x4 + 1), t52, t53, t54, t55)).set (x5).toNat (t71, t72, wrap64 ((wrap64 (x4 + 1)) + 1), t74, t75, t76)).set (x5).toNat (t92, t93, t94, wrap64 ((wrap64 ((wrap64 (x4 + 1)) + 1)) + 1), t96, t97)).set (x5).toNat (t117, t118, t119, t120, wrap64 ((wrap64 ((wrap64 ((wrap64 (x4 + 1)) + 1)) + 1)) + 1), t122)).length) := Aside0.mk (hl107.out.trans (List.length_set ..).symm)
   refine wpList_nil ?_
   (try simp only [Exit.then, Exit.inBlock, ↓reduceIte, Nat.reduceEqDiff])
   refine hK116 _ _ ?_
   refine wp_region_lit ?_
   refine wpList_plain rfl (fun Ko hKo => ?_)
   go_simp
   refine hKo _ _ ?_
   clear hKo Ko
   try simp only [Act.put, nm1, nm2, nm3, i64_w]
   refine wpList_plain rfl (fun Ko hKo => ?_)
   go_simp
   refine hKo _ _ ?_
   clear hKo Ko
   try simp only [Act.put, nm1, nm2, nm3, i64_w]
   refine wpList_plain rfl (fun Ko hKo => ?_)
   go_simp
   refine hKo _ _ ?_
   clear hKo Ko
   try simp only [Act.put, nm1, nm2, nm3, i64_w]
   refine wpList_nil ?_
   (try simp only [Exit.then, Exit.inBlock, ↓reduceIte, Nat.reduceEqDiff])
   refine hK115 _ _ ?_
   refine wp_region_lit ?_
   refine wpList_plain rfl (fun Ko hKo => ?_)
   go_simp
   refine hKo _ _ ?_
   clear hKo Ko
   try simp only [Act.put, nm1, nm2, nm3, i64_w]
   refine wpList_plain rfl (fun Ko hKo => ?_)
   go_simp
   refine hKo _ _ ?_
   clear hKo Ko
   try simp only [Act.put, nm1, nm2, nm3, i64_w]
   try simp only [show wrap64 1 = 1 from wlit rfl]
   refine wpList_plain rfl (fun Ko hKo => ?_)
   go_simp
   refine hKo _ _ ?_
   clear hKo Ko
   try simp only [Act.put, nm1, nm2, nm3, i64_w]
   refine wpList_nil ?_
   (try simp only [Exit.then, Exit.inBlock, ↓reduceIte, Nat.reduceEqDiff])
   refine hK112 _ _ ?_
   refine rounds_k (fun K133 hK133 => ?_)
   refine wp_seq_k (fun K134 hK134 => ?_)
   refine wp_seq_k (fun K135 hK135 => ?_)
   refine wp_region_lit ?_
   refine wpList_plain rfl (fun Ko hKo => ?_)
   go_simp
   refine hKo _ _ ?_
   clear hKo Ko
   try simp only [Act.put, nm1, nm2, nm3, i64_w]
   refine wpList_plain rfl (fun Ko hKo => ?_)
   go_simp
   refine hKo _ _ ?_
   clear hKo Ko
   try simp only [Act.put, nm1, nm2, nm3, i64_w]
   refine wpList_nil ?_
   (try simp only [Exit.then, Exit.inBlock, ↓reduceIte, Nat.reduceEqDiff])
   refine hK135 _ _ ?_
   refine wp_cond_true rfl ?_
   refine wp_skip ?_
   (try simp only [Exit.then, Exit.inBlock, ↓reduceIte, Nat.reduceEqDiff])
   refine hK134 _ _ ?_
   refine wp_seq_k (fun K136 hK136 => ?_)
   refine wp_block ?_
   refine wp_seq_k (fun K137 hK137 => ?_)
   refine wp_region_lit ?_
   refine wpList_plain rfl (fun Ko hKo => ?_)
   go_simp
   refine hKo _ _ ?_
   clear hKo Ko
   try simp only [Act.put, nm1, nm2, nm3, i64_w]
   refine wpList_plain rfl (fun Ko hKo => ?_)
   go_simp
   refine hKo _ _ ?_
   clear hKo Ko
   try simp only [Act.put, nm1, nm2, nm3, i64_w]
   refine wpList_plain rfl (fun Ko hKo => ?_)
   go_simp
   refine hKo _ _ ?_
   clear hKo Ko
   try simp only [Act.put, nm1, nm2, nm3, i64_w]
   refine wpList_plain rfl (fun Ko hKo => ?_)
   go_simp
   refine hKo _ _ ?_
   clear hKo Ko
   try simp only [Act.put, nm1, nm2, nm3, i64_w]
   refine step_index e6 (T := 30) (wanted_none rfl) rfl (by kernel_rfl) (by kernel_rfl) rfl hl132.out rfl h129.rd A144.out ?_
   intro ad145 hat he
   have he146 := Aside0.mk he
   have hat147 := Aside0.mk hat
   clear he hat
   simp only [Act.put, nm1, nm2, nm3, i64_w]
   refine wpList_plain rfl (fun Ko hKo => ?_)
   go_simp
   refine hKo _ _ ?_
   clear hKo Ko
   try simp only [Act.put, nm1, nm2, nm3, i64_w]
   refine wpList_plain rfl (fun Ko hKo => ?_)
   go_simp
   refine hKo _ _ ?_
   clear hKo Ko
   try simp only [Act.put, nm1, nm2, nm3, i64_w]
   have hO0 := Aside0.mk h129
   have lb152 := Aside0.mk hO0.out.lt
   refine step_put e6 (T := 30) (u := .int .i64 (wrap64 ((wrap64 ((wrap64 ((wrap64 ((wrap64 (x4 + 1)) + 1)) + 1)) + 1)) + 1))) (old := (t138, t139, t140, t141, t142, t143)) (new := (t138, t139, t140, t141, t142, wrap64 ((wrap64 ((wrap64 ((wrap64 ((wrap64 (x4 + 1)) + 1)) + 1)) + 1)) + 1))) 5 rfl rfl rfl hat147.out rfl rfl rfl (by kernel_rfl) (by simp [Value.cells, Value.oneCell']) (Nat.le_of_ble_eq_true rfl) rfl hO0.out A144.out ?_
   intro w148 h150 hg
   have hg151 := Aside0.mk hg
   clear hO0 hg
   try simp only [Act.put, nm1, nm2, nm3, i64_w]
   have hl153 : Aside0 (a0.length = ((((((x6.set (x5).toNat (x4, t30, t31, t32, t33, t34)).set (x5).toNat (t50, wrap64 (x4 + 1), t52, t53, t54, t55)).set (x5).toNat (t71, t72, wrap64 ((wrap64 (x4 + 1)) + 1), t74, t75, t76)).set (x5).toNat (t92, t93, t94, wrap64 ((wrap64 ((wrap64 (x4 + 1)) + 1)) + 1), t96, t97)).set (x5).toNat (t117, t118, t119, t120, wrap64 ((wrap64 ((wrap64 ((wrap64 (x4 + 1)) + 1)) + 1)) + 1), t122)).set (x5).toNat (t138, t139, t140, t141, t142, wrap64 ((wrap64 ((wrap64 ((wrap64 ((wrap64 (x4 + 1)) + 1)) + 1)) + 1)) + 1))).length) := Aside0.mk (hl132.out.trans (List.length_set ..).symm)
   refine wpList_nil ?_
   (try simp only [Exit.then, Exit.inBlock, ↓reduceIte, Nat.reduceEqDiff])
   refine hK137 _ _ ?_
   refine wp_region_lit ?_
   refine wpList_plain rfl (fun Ko hKo => ?_)
   go_simp
   refine hKo _ _ ?_
   clear hKo Ko
   try simp only [Act.put, nm1, nm2, nm3, i64_w]
   refine wpList_plain rfl (fun Ko hKo => ?_)
   go_simp
   refine hKo _ _ ?_
   clear hKo Ko
   try simp only [Act.put, nm1, nm2, nm3, i64_w]
   refine wpList_plain rfl (fun Ko hKo => ?_)
   go_simp
   refine hKo _ _ ?_
   clear hKo Ko
   try simp only [Act.put, nm1, nm2, nm3, i64_w]
   refine wpList_nil ?_
   (try simp only [Exit.then, Exit.inBlock, ↓reduceIte, Nat.reduceEqDiff])
   refine hK136 _ _ ?_
   refine wp_region_lit ?_
   refine wpList_plain rfl (fun Ko hKo => ?_)
   go_simp
   refine hKo _ _ ?_
   clear hKo Ko
   try simp only [Act.put, nm1, nm2, nm3, i64_w]
   refine wpList_plain rfl (fun Ko hKo => ?_)
   go_simp
   refine hKo _ _ ?_
   clear hKo Ko
   try simp only [Act.put, nm1, nm2, nm3, i64_w]
   try simp only [show wrap64 2 = 2 from wlit rfl]
   refine wpList_plain rfl (fun Ko hKo => ?_)
   go_simp
   refine hKo _ _ ?_
   clear hKo Ko
   try simp only [Act.put, nm1, nm2, nm3, i64_w]
   refine wpList_nil ?_
   (try simp only [Exit.then, Exit.inBlock, ↓reduceIte, Nat.reduceEqDiff])
   refine hK133 _ _ ?_
   refine rounds_k (fun K154 hK154 => ?_)
   refine wp_seq_k (fun K155 hK155 => ?_)
   refine wp_seq_k (fun K156 hK156 => ?_)
   refine wp_region_lit ?_
   refine wpList_plain rfl (fun Ko hKo => ?_)
   go_simp
   refine hKo _ _ ?_
   clear hKo Ko
   try simp only [Act.put, nm1, nm2, nm3, i64_w]
   refine wpList_plain rfl (fun Ko hKo => ?_)
   go_simp
   refine hKo _ _ ?_
   clear hKo Ko
   try simp only [Act.put, nm1, nm2, nm3, i64_w]
   refine wpList_nil ?_
   (try simp only [Exit.then, Exit.inBlock, ↓reduceIte, Nat.reduceEqDiff])
   refine hK156 _ _ ?_
   refine wp_cond_false rfl ?_
   refine wp_exit ?_
   (try simp only [Exit.then, Exit.inBlock, ↓reduceIte, Nat.reduceEqDiff])
   refine hK21 _ _ ?_
   refine wp_region_lit ?_
   refine wpList_plain rfl (fun Ko hKo => ?_)
   go_simp
   refine hKo _ _ ?_
   clear hKo Ko
   try simp only [Act.put, nm1, nm2, nm3, i64_w]
   refine wpList_plain rfl (fun Ko hKo => ?_)
   go_simp
   refine hKo _ _ ?_
   clear hKo Ko
   try simp only [Act.put, nm1, nm2, nm3, i64_w]
   refine wpList_plain rfl (fun Ko hKo => ?_)
   go_simp
   refine hKo _ _ ?_
   clear hKo Ko
   try simp only [Act.put, nm1, nm2, nm3, i64_w]
   refine wpList_nil ?_
   (try simp only [Exit.then, Exit.inBlock, ↓reduceIte, Nat.reduceEqDiff])
   refine hK17 _ _ ?_
   go_roundg k13
   case measure => exact Nat.lt_succ_self _
   case rel => exact ⟨wrap64 ((wrap64 ((wrap64 ((wrap64 ((wrap64 ((wrap64 (x4 + 1)) + 1)) + 1)) + 1)) + 1)) + 1), wrap64 (x5 + 1), ((((((x6.set (x5).toNat (x4, t30, t31, t32, t33, t34)).set (x5).toNat (t50, wrap64 (x4 + 1), t52, t53, t54, t55)).set (x5).toNat (t71, t72, wrap64 ((wrap64 (x4 + 1)) + 1), t74, t75, t76)).set (x5).toNat (t92, t93, t94, wrap64 ((wrap64 ((wrap64 (x4 + 1)) + 1)) + 1), t96, t97)).set (x5).toNat (t117, t118, t119, t120, wrap64 ((wrap64 ((wrap64 ((wrap64 (x4 + 1)) + 1)) + 1)) + 1), t122)).set (x5).toNat (t138, t139, t140, t141, t142, wrap64 ((wrap64 ((wrap64 ((wrap64 ((wrap64 (x4 + 1)) + 1)) + 1)) + 1)) + 1))), (by first | rfl | simp), (by first | rfl | simp), HL157, ⟨by have := hk14.out; omega⟩, ⟨((((((hu8.out.trans (Grow.same hg42.out)).trans (Grow.same hg63.out)).trans (Grow.same hg84.out)).trans (Grow.same hg105.out)).trans (Grow.same hg130.out)).trans (Grow.same hg151.out))⟩, ⟨(Nat.le_trans ((Nat.le_trans ((Nat.le_trans ((Nat.le_trans ((Nat.le_trans ((Nat.le_trans ((Nat.le_trans (Nat.le_refl _) hz9.out)) hg42.out.size)) hg63.out.size)) hg84.out.size)) hg105.out.size)) hg130.out.size)) hg151.out.size)⟩, h150, ⟨hl153.out⟩⟩
  ·
   rw [if_neg c20] at H
   replace c20 := Bool.eq_false_iff.mpr c20
   simp only [Option.some.injEq, Prod.mk.injEq] at H
   obtain ⟨rfl, rfl⟩ := H
   try simp only [c20, Bool.not_true, Bool.not_false]
   refine wp_cond_false rfl ?_
   refine wp_exit ?_
   (try simp only [Exit.then, Exit.inBlock, ↓reduceIte, Nat.reduceEqDiff])
   refine hK2 _ _ ?_
   refine wp_seq_k (fun K158 hK158 => ?_)
   refine wp_region_lit ?_
   refine wpList_plain rfl (fun Ko hKo => ?_)
   go_simp
   refine hKo _ _ ?_
   clear hKo Ko
   try simp only [Act.put, nm1, nm2, nm3, i64_w]
   refine wpList_plain rfl (fun Ko hKo => ?_)
   go_simp
   refine hKo _ _ ?_
   clear hKo Ko
   try simp only [Act.put, nm1, nm2, nm3, i64_w]
   refine wpList_nil ?_
   (try simp only [Exit.then, Exit.inBlock, ↓reduceIte, Nat.reduceEqDiff])
   refine hK158 _ _ ?_
   refine wp_ret ?_
   (try simp only [Exit.then, Exit.inBlock, ↓reduceIte, Nat.reduceEqDiff])
   refine hQf _ _ _ ?_
   exact bodyPost_ret (v := .int .i64 x4) (by first | rfl | (simp [results, Try.results41, go_sem]; done) | (simp [results, Try.results41, go_sem]; rfl)) rfl ⟨rfl, h11, ⟨hl12.out⟩, hu8.out⟩

set_option maxHeartbeats 40000000 in
set_option maxRecDepth 100000 in
theorem laws_heldMoveS.calls (K : Nat) (a0_A : Option Addr) (a0_c : Nat) (a0 : List (Int × Int × Int × Int × Int × Int)) (a1 : Int) (r0 : Int) (w : World) (ha0 : Rd e6 w a0_A a0) (h : laws_heldMoveS.f K a0 a1 = some (r0)) :
    Calls Try.prog 42 #[.slice a0_A a0.length a0_c, .int .i64 a1] w fun e w' => e = .returned (.int .i64 r0) ∧ Up w w' := by
 have H : ((laws_heldMoveS.l0 K a0 K a1 0) : Option (Int)) = some (r0) := h
 clear h
 go_enter Try.func42, Try.ntmps42
 refine wp_hide (fun Qf hQf => ?_)
 refine wp_seq_k (fun K1 hK1 => ?_)
 refine wp_region_lit ?_
 refine wpList_plain rfl (fun Ko hKo => ?_)
 go_simp
 refine hKo _ _ ?_
 clear hKo Ko
 try simp only [Act.put, nm1, nm2, nm3, i64_w]
 refine wpList_nil ?_
 (try simp only [Exit.then, Exit.inBlock, ↓reduceIte, Nat.reduceEqDiff])
 refine hK1 _ _ ?_
 refine wp_seq_k (fun K2 hK2 => ?_)
 refine wp_seq_k (fun K3 hK3 => ?_)
 refine wp_region_lit ?_
 refine wpList_plain rfl (fun Ko hKo => ?_)
 go_simp
 refine hKo _ _ ?_
 clear hKo Ko
 try simp only [Act.put, nm1, nm2, nm3, i64_w]
 refine wpList_nil ?_
 (try simp only [Exit.then, Exit.inBlock, ↓reduceIte, Nat.reduceEqDiff])
 refine hK3 _ _ ?_
 refine wp_block ?_
 have HL9 := Aside0.mk H
 clear H
 go_loopg [1, 5] K (fun kq v1 v5 w' => ∃ (x4 : Int) (x5 : Int), v1 = .int .i64 x4 ∧ v5 = .int .i64 x5 ∧ Aside0 (laws_heldMoveS.l0 K a0 kq x4 x5 = some (r0)) ∧ Aside0 (kq ≤ K) ∧ Aside0 (Up w w') ∧ Aside0 (w.heap.size ≤ w'.heap.size))
 case atStart => exact ⟨a1, 0, (by first | rfl | simp), (by first | rfl | simp), HL9, ⟨Nat.le_refl _⟩, ⟨(Up.refl _)⟩, ⟨Nat.le_refl _⟩⟩
 case round =>
  rename_i J13 K14 hJ13 hK14
  obtain ⟨x4, x5, rfl, rfl, HL12, hk11, hu7, hz8⟩ := hrel
  obtain ⟨w6, rfl⟩ : ∃ wo : World, wo = wr := ⟨_, rfl⟩
  obtain ⟨k10, rfl⟩ | rfl : (∃ k, gk = k + 1) ∨ gk = 0 := by rcases gk with _ | k; exact .inr rfl; exact .inl ⟨k, rfl⟩
  case inr => exact absurd HL12.out (by simp [laws_heldMoveS.l0])
  have H := HL12.out
  clear HL12
  rw [laws_heldMoveS.l0] at H
  refine wp_seq_k (fun K15 hK15 => ?_)
  refine wp_seq_k (fun K16 hK16 => ?_)
  refine wp_region_lit ?_
  refine wpList_plain rfl (fun Ko hKo => ?_)
  go_simp
  refine hKo _ _ ?_
  clear hKo Ko
  try simp only [Act.put, nm1, nm2, nm3, i64_w]
  refine wpList_plain rfl (fun Ko hKo => ?_)
  go_simp
  refine hKo _ _ ?_
  clear hKo Ko
  try simp only [Act.put, nm1, nm2, nm3, i64_w]
  refine wpList_plain rfl (fun Ko hKo => ?_)
  go_simp
  refine hKo _ _ ?_
  clear hKo Ko
  try simp only [Act.put, nm1, nm2, nm3, i64_w]
  refine wpList_plain rfl (fun Ko hKo => ?_)
  go_simp
  refine hKo _ _ ?_
  clear hKo Ko
  try simp only [Act.put, nm1, nm2, nm3, i64_w]
  refine wpList_nil ?_
  (try simp only [Exit.then, Exit.inBlock, ↓reduceIte, Nat.reduceEqDiff])
  refine hK16 _ _ ?_
  by_cases c17 : (decide (x5 < (a0.length : Int))) = true
  ·
   rw [if_pos c17] at H
   replace H := Option.bind_eq_some_iff.mp H
   obtain ⟨⟨t27, t28, t29, t30, t31, t32⟩, A33, H⟩ := H
   replace A33 := Aside0.mk A33
   try dsimp only at H
   try simp only [c17, Bool.not_true, Bool.not_false]
   refine wp_cond_true rfl ?_
   refine wp_skip ?_
   (try simp only [Exit.then, Exit.inBlock, ↓reduceIte, Nat.reduceEqDiff])
   refine hK15 _ _ ?_
   refine wp_seq_k (fun K18 hK18 => ?_)
   refine wp_block ?_
   refine wp_seq_k (fun K19 hK19 => ?_)
   refine wp_seq_k (fun K20 hK20 => ?_)
   refine wp_region_lit ?_
   refine wpList_plain rfl (fun Ko hKo => ?_)
   go_simp
   refine hKo _ _ ?_
   clear hKo Ko
   try simp only [Act.put, nm1, nm2, nm3, i64_w]
   refine wpList_nil ?_
   (try simp only [Exit.then, Exit.inBlock, ↓reduceIte, Nat.reduceEqDiff])
   refine hK20 _ _ ?_
   refine wp_block ?_
   refine wp_loop_rounds 40 ?_
   refine rounds_k (fun K21 hK21 => ?_)
   refine wp_seq_k (fun K22 hK22 => ?_)
   refine wp_seq_k (fun K23 hK23 => ?_)
   refine wp_region_lit ?_
   refine wpList_plain rfl (fun Ko hKo => ?_)
   go_simp
   refine hKo _ _ ?_
   clear hKo Ko
   try simp only [Act.put, nm1, nm2, nm3, i64_w]
   refine wpList_plain rfl (fun Ko hKo => ?_)
   go_simp
   refine hKo _ _ ?_
   clear hKo Ko
   try simp only [Act.put, nm1, nm2, nm3, i64_w]
   refine wpList_nil ?_
   (try simp only [Exit.then, Exit.inBlock, ↓reduceIte, Nat.reduceEqDiff])
   refine hK23 _ _ ?_
   refine wp_cond_true rfl ?_
   refine wp_skip ?_
   (try simp only [Exit.then, Exit.inBlock, ↓reduceIte, Nat.reduceEqDiff])
   refine hK22 _ _ ?_
   refine wp_seq_k (fun K24 hK24 => ?_)
   refine wp_block ?_
   refine wp_seq_k (fun K25 hK25 => ?_)
   refine wp_seq_k (fun K26 hK26 => ?_)
   refine wp_region_lit ?_
   refine wpList_plain rfl (fun Ko hKo => ?_)
   go_simp
   refine hKo _ _ ?_
   clear hKo Ko
   try simp only [Act.put, nm1, nm2, nm3, i64_w]
   refine wpList_plain rfl (fun Ko hKo => ?_)
   go_simp
   refine hKo _ _ ?_
   clear hKo Ko
   try simp only [Act.put, nm1, nm2, nm3, i64_w]
   refine wpList_plain rfl (fun Ko hKo => ?_)
   go_simp
   refine hKo _ _ ?_
   clear hKo Ko
   try simp only [Act.put, nm1, nm2, nm3, i64_w]
   refine step_index e6 (T := 30) (wanted_none rfl) rfl (by kernel_rfl) (by kernel_rfl) rfl rfl rfl (ha0.up hu7.out) A33.out ?_
   intro ad34 hat he
   have he35 := Aside0.mk he
   have hat36 := Aside0.mk hat
   clear he hat
   simp only [Act.put, nm1, nm2, nm3, i64_w]
   refine wpList_plain rfl (fun Ko hKo => ?_)
   go_simp
   refine hKo _ _ ?_
   clear hKo Ko
   try simp only [Act.put, nm1, nm2, nm3, i64_w]
   refine wpList_plain rfl (fun Ko hKo => ?_)
   go_simp
   refine hKo _ _ ?_
   clear hKo Ko
   try simp only [Act.put, nm1, nm2, nm3, i64_w]
   have cl0 := he35.out 0 _ rfl
   rw [addr_add0] at cl0
   refine wpList_plain rfl (fun Ko hKo => ?_)
   go_simp
   refine hKo _ _ ?_
   clear hKo Ko
   clear cl0
   try simp only [Act.put, nm1, nm2, nm3, i64_w]
   refine wpList_plain rfl (fun Ko hKo => ?_)
   go_simp
   refine hKo _ _ ?_
   clear hKo Ko
   try simp only [Act.put, nm1, nm2, nm3, i64_w]
   refine wpList_plain rfl (fun Ko hKo => ?_)
   go_simp
   refine hKo _ _ ?_
   clear hKo Ko
   try simp only [Act.put, nm1, nm2, nm3, i64_w]
   refine wpList_nil ?_
   (try simp only [Exit.then, Exit.inBlock, ↓reduceIte, Nat.reduceEqDiff])
   refine hK26 _ _ ?_
   by_cases c37 : (t27 == x4) = true
   ·
    rw [if_pos c37] at H
    have c37n : (t27 != x4) = false := by rw [bne, c37]; rfl
    replace H := Option.bind_eq_some_iff.mp H
    obtain ⟨⟨t44, t45, t46, t47, t48, t49⟩, A50, H⟩ := H
    replace A50 := Aside0.mk A50
    try dsimp only at H
    try simp only [c37, c37n, Bool.not_true, Bool.not_false]
    refine wp_cond_false rfl ?_
    refine wp_skip ?_
    (try simp only [Exit.then, Exit.inBlock, ↓reduceIte, Nat.reduceEqDiff])
    refine hK25 _ _ ?_
    refine wp_region_lit ?_
    refine wpList_plain rfl (fun Ko hKo => ?_)
    go_simp
    refine hKo _ _ ?_
    clear hKo Ko
    try simp only [Act.put, nm1, nm2, nm3, i64_w]
    refine wpList_plain rfl (fun Ko hKo => ?_)
    go_simp
    refine hKo _ _ ?_
    clear hKo Ko
    try simp only [Act.put, nm1, nm2, nm3, i64_w]
    refine wpList_plain rfl (fun Ko hKo => ?_)
    go_simp
    refine hKo _ _ ?_
    clear hKo Ko
    try simp only [Act.put, nm1, nm2, nm3, i64_w]
    refine wpList_nil ?_
    (try simp only [Exit.then, Exit.inBlock, ↓reduceIte, Nat.reduceEqDiff])
    refine hK24 _ _ ?_
    refine wp_region_lit ?_
    refine wpList_plain rfl (fun Ko hKo => ?_)
    go_simp
    refine hKo _ _ ?_
    clear hKo Ko
    try simp only [Act.put, nm1, nm2, nm3, i64_w]
    refine wpList_plain rfl (fun Ko hKo => ?_)
    go_simp
    refine hKo _ _ ?_
    clear hKo Ko
    try simp only [Act.put, nm1, nm2, nm3, i64_w]
    try simp only [show wrap64 1 = 1 from wlit rfl]
    refine wpList_plain rfl (fun Ko hKo => ?_)
    go_simp
    refine hKo _ _ ?_
    clear hKo Ko
    try simp only [Act.put, nm1, nm2, nm3, i64_w]
    refine wpList_nil ?_
    (try simp only [Exit.then, Exit.inBlock, ↓reduceIte, Nat.reduceEqDiff])
    refine hK21 _ _ ?_
    refine rounds_k (fun K38 hK38 => ?_)
    refine wp_seq_k (fun K39 hK39 => ?_)
    refine wp_seq_k (fun K40 hK40 => ?_)
    refine wp_region_lit ?_
    refine wpList_plain rfl (fun Ko hKo => ?_)
    go_simp
    refine hKo _ _ ?_
    clear hKo Ko
    try simp only [Act.put, nm1, nm2, nm3, i64_w]
    refine wpList_plain rfl (fun Ko hKo => ?_)
    go_simp
    refine hKo _ _ ?_
    clear hKo Ko
    try simp only [Act.put, nm1, nm2, nm3, i64_w]
    refine wpList_nil ?_
    (try simp only [Exit.then, Exit.inBlock, ↓reduceIte, Nat.reduceEqDiff])
    refine hK40 _ _ ?_
    refine wp_cond_true rfl ?_
    refine wp_skip ?_
    (try simp only [Exit.then, Exit.inBlock, ↓reduceIte, Nat.reduceEqDiff])
    refine hK39 _ _ ?_
    refine wp_seq_k (fun K41 hK41 => ?_)
    refine wp_block ?_
    refine wp_seq_k (fun K42 hK42 => ?_)
    refine wp_seq_k (fun K43 hK43 => ?_)
    refine wp_region_lit ?_
    refine wpList_plain rfl (fun Ko hKo => ?_)
    go_simp
    refine hKo _ _ ?_
    clear hKo Ko
    try simp only [Act.put, nm1, nm2, nm3, i64_w]
    refine wpList_plain rfl (fun Ko hKo => ?_)
    go_simp
    refine hKo _ _ ?_
    clear hKo Ko
    try simp only [Act.put, nm1, nm2, nm3, i64_w]
    refine wpList_plain rfl (fun Ko hKo => ?_)
    go_simp
    refine hKo _ _ ?_
    clear hKo Ko
    try simp only [Act.put, nm1, nm2, nm3, i64_w]
    refine step_index e6 (T := 30) (wanted_none rfl) rfl (by kernel_rfl) (by kernel_rfl) rfl rfl rfl (ha0.up hu7.out) A50.out ?_
    intro ad51 hat he
    have he52 := Aside0.mk he
    have hat53 := Aside0.mk hat
    clear he hat
    simp only [Act.put, nm1, nm2, nm3, i64_w]
    refine wpList_plain rfl (fun Ko hKo => ?_)
    go_simp
    refine hKo _ _ ?_
    clear hKo Ko
    try simp only [Act.put, nm1, nm2, nm3, i64_w]
    refine wpList_plain rfl (fun Ko hKo => ?_)
    go_simp
    refine hKo _ _ ?_
    clear hKo Ko
    try simp only [Act.put, nm1, nm2, nm3, i64_w]
    have cl0 : World.cell? _ ⟨ad51.block, ad51.off + 1, none⟩ = some _ := he52.out 1 _ rfl
    refine wpList_plain rfl (fun Ko hKo => ?_)
    go_simp
    refine hKo _ _ ?_
    clear hKo Ko
    clear cl0
    try simp only [Act.put, nm1, nm2, nm3, i64_w]
    refine wpList_plain rfl (fun Ko hKo => ?_)
    go_simp
    refine hKo _ _ ?_
    clear hKo Ko
    try simp only [Act.put, nm1, nm2, nm3, i64_w]
    refine wpList_plain rfl (fun Ko hKo => ?_)
    go_simp
    refine hKo _ _ ?_
    clear hKo Ko
    try simp only [Act.put, nm1, nm2, nm3, i64_w]
    refine wpList_nil ?_
    (try simp only [Exit.then, Exit.inBlock, ↓reduceIte, Nat.reduceEqDiff])
    refine hK43 _ _ ?_
    by_cases c54 : (t45 == (wrap64 (x4 + 1))) = true
    ·
     rw [if_pos c54] at H
     have c54n : (t45 != (wrap64 (x4 + 1))) = false := by rw [bne, c54]; rfl
     replace H := Option.bind_eq_some_iff.mp H
     obtain ⟨⟨t61, t62, t63, t64, t65, t66⟩, A67, H⟩ := H
     replace A67 := Aside0.mk A67
     try dsimp only at H
     try simp only [c54, c54n, Bool.not_true, Bool.not_false]
     refine wp_cond_false rfl ?_
     refine wp_skip ?_
     (try simp only [Exit.then, Exit.inBlock, ↓reduceIte, Nat.reduceEqDiff])
     refine hK42 _ _ ?_
     refine wp_region_lit ?_
     refine wpList_plain rfl (fun Ko hKo => ?_)
     go_simp
     refine hKo _ _ ?_
     clear hKo Ko
     try simp only [Act.put, nm1, nm2, nm3, i64_w]
     refine wpList_plain rfl (fun Ko hKo => ?_)
     go_simp
     refine hKo _ _ ?_
     clear hKo Ko
     try simp only [Act.put, nm1, nm2, nm3, i64_w]
     refine wpList_plain rfl (fun Ko hKo => ?_)
     go_simp
     refine hKo _ _ ?_
     clear hKo Ko
     try simp only [Act.put, nm1, nm2, nm3, i64_w]
     refine wpList_nil ?_
     (try simp only [Exit.then, Exit.inBlock, ↓reduceIte, Nat.reduceEqDiff])
     refine hK41 _ _ ?_
     refine wp_region_lit ?_
     refine wpList_plain rfl (fun Ko hKo => ?_)
     go_simp
     refine hKo _ _ ?_
     clear hKo Ko
     try simp only [Act.put, nm1, nm2, nm3, i64_w]
     refine wpList_plain rfl (fun Ko hKo => ?_)
     go_simp
     refine hKo _ _ ?_
     clear hKo Ko
     try simp only [Act.put, nm1, nm2, nm3, i64_w]
     try simp only [show wrap64 2 = 2 from wlit rfl]
     refine wpList_plain rfl (fun Ko hKo => ?_)
     go_simp
     refine hKo _ _ ?_
     clear hKo Ko
     try simp only [Act.put, nm1, nm2, nm3, i64_w]
     refine wpList_nil ?_
     (try simp only [Exit.then, Exit.inBlock, ↓reduceIte, Nat.reduceEqDiff])
     refine hK38 _ _ ?_
     refine rounds_k (fun K55 hK55 => ?_)
     refine wp_seq_k (fun K56 hK56 => ?_)
     refine wp_seq_k (fun K57 hK57 => ?_)
     refine wp_region_lit ?_
     refine wpList_plain rfl (fun Ko hKo => ?_)
     go_simp
     refine hKo _ _ ?_
     clear hKo Ko
     try simp only [Act.put, nm1, nm2, nm3, i64_w]
     refine wpList_plain rfl (fun Ko hKo => ?_)
     go_simp
     refine hKo _ _ ?_
     clear hKo Ko
     try simp only [Act.put, nm1, nm2, nm3, i64_w]
     refine wpList_nil ?_
     (try simp only [Exit.then, Exit.inBlock, ↓reduceIte, Nat.reduceEqDiff])
     refine hK57 _ _ ?_
     refine wp_cond_true rfl ?_
     refine wp_skip ?_
     (try simp only [Exit.then, Exit.inBlock, ↓reduceIte, Nat.reduceEqDiff])
     refine hK56 _ _ ?_
     refine wp_seq_k (fun K58 hK58 => ?_)
     refine wp_block ?_
     refine wp_seq_k (fun K59 hK59 => ?_)
     refine wp_seq_k (fun K60 hK60 => ?_)
     refine wp_region_lit ?_
     refine wpList_plain rfl (fun Ko hKo => ?_)
     go_simp
     refine hKo _ _ ?_
     clear hKo Ko
     try simp only [Act.put, nm1, nm2, nm3, i64_w]
     refine wpList_plain rfl (fun Ko hKo => ?_)
     go_simp
     refine hKo _ _ ?_
     clear hKo Ko
     try simp only [Act.put, nm1, nm2, nm3, i64_w]
     refine wpList_plain rfl (fun Ko hKo => ?_)
     go_simp
     refine hKo _ _ ?_
     clear hKo Ko
     try simp only [Act.put, nm1, nm2, nm3, i64_w]
     refine step_index e6 (T := 30) (wanted_none rfl) rfl (by kernel_rfl) (by kernel_rfl) rfl rfl rfl (ha0.up hu7.out) A67.out ?_
     intro ad68 hat he
     have he69 := Aside0.mk he
     have hat70 := Aside0.mk hat
     clear he hat
     simp only [Act.put, nm1, nm2, nm3, i64_w]
     refine wpList_plain rfl (fun Ko hKo => ?_)
     go_simp
     refine hKo _ _ ?_
     clear hKo Ko
     try simp only [Act.put, nm1, nm2, nm3, i64_w]
     refine wpList_plain rfl (fun Ko hKo => ?_)
     go_simp
     refine hKo _ _ ?_
     clear hKo Ko
     try simp only [Act.put, nm1, nm2, nm3, i64_w]
     have cl0 : World.cell? _ ⟨ad68.block, ad68.off + 2, none⟩ = some _ := he69.out 2 _ rfl
     refine wpList_plain rfl (fun Ko hKo => ?_)
     go_simp
     refine hKo _ _ ?_
     clear hKo Ko
     clear cl0
     try simp only [Act.put, nm1, nm2, nm3, i64_w]
     refine wpList_plain rfl (fun Ko hKo => ?_)
     go_simp
     refine hKo _ _ ?_
     clear hKo Ko
     try simp only [Act.put, nm1, nm2, nm3, i64_w]
     refine wpList_plain rfl (fun Ko hKo => ?_)
     go_simp
     refine hKo _ _ ?_
     clear hKo Ko
     try simp only [Act.put, nm1, nm2, nm3, i64_w]
     refine wpList_nil ?_
     (try simp only [Exit.then, Exit.inBlock, ↓reduceIte, Nat.reduceEqDiff])
     refine hK60 _ _ ?_
     by_cases c71 : (t63 == (wrap64 ((wrap64 (x4 + 1)) + 1))) = true
     ·
      rw [if_pos c71] at H
      have c71n : (t63 != (wrap64 ((wrap64 (x4 + 1)) + 1))) = false := by rw [bne, c71]; rfl
      replace H := Option.bind_eq_some_iff.mp H
      obtain ⟨⟨t78, t79, t80, t81, t82, t83⟩, A84, H⟩ := H
      replace A84 := Aside0.mk A84
      try dsimp only at H
      try simp only [c71, c71n, Bool.not_true, Bool.not_false]
      refine wp_cond_false rfl ?_
      refine wp_skip ?_
      (try simp only [Exit.then, Exit.inBlock, ↓reduceIte, Nat.reduceEqDiff])
      refine hK59 _ _ ?_
      refine wp_region_lit ?_
      refine wpList_plain rfl (fun Ko hKo => ?_)
      go_simp
      refine hKo _ _ ?_
      clear hKo Ko
      try simp only [Act.put, nm1, nm2, nm3, i64_w]
      refine wpList_plain rfl (fun Ko hKo => ?_)
      go_simp
      refine hKo _ _ ?_
      clear hKo Ko
      try simp only [Act.put, nm1, nm2, nm3, i64_w]
      refine wpList_plain rfl (fun Ko hKo => ?_)
      go_simp
      refine hKo _ _ ?_
      clear hKo Ko
      try simp only [Act.put, nm1, nm2, nm3, i64_w]
      refine wpList_nil ?_
      (try simp only [Exit.then, Exit.inBlock, ↓reduceIte, Nat.reduceEqDiff])
      refine hK58 _ _ ?_
      refine wp_region_lit ?_
      refine wpList_plain rfl (fun Ko hKo => ?_)
      go_simp
      refine hKo _ _ ?_
      clear hKo Ko
      try simp only [Act.put, nm1, nm2, nm3, i64_w]
      refine wpList_plain rfl (fun Ko hKo => ?_)
      go_simp
      refine hKo _ _ ?_
      clear hKo Ko
      try simp only [Act.put, nm1, nm2, nm3, i64_w]
      try simp only [show wrap64 3 = 3 from wlit rfl]
      refine wpList_plain rfl (fun Ko hKo => ?_)
      go_simp
      refine hKo _ _ ?_
      clear hKo Ko
      try simp only [Act.put, nm1, nm2, nm3, i64_w]
      refine wpList_nil ?_
      (try simp only [Exit.then, Exit.inBlock, ↓reduceIte, Nat.reduceEqDiff])
      refine hK55 _ _ ?_
      refine rounds_k (fun K72 hK72 => ?_)
      refine wp_seq_k (fun K73 hK73 => ?_)
      refine wp_seq_k (fun K74 hK74 => ?_)
      refine wp_region_lit ?_
      refine wpList_plain rfl (fun Ko hKo => ?_)
      go_simp
      refine hKo _ _ ?_
      clear hKo Ko
      try simp only [Act.put, nm1, nm2, nm3, i64_w]
      refine wpList_plain rfl (fun Ko hKo => ?_)
      go_simp
      refine hKo _ _ ?_
      clear hKo Ko
      try simp only [Act.put, nm1, nm2, nm3, i64_w]
      refine wpList_nil ?_
      (try simp only [Exit.then, Exit.inBlock, ↓reduceIte, Nat.reduceEqDiff])
      refine hK74 _ _ ?_
      refine wp_cond_true rfl ?_
      refine wp_skip ?_
      (try simp only [Exit.then, Exit.inBlock, ↓reduceIte, Nat.reduceEqDiff])
      refine hK73 _ _ ?_
      refine wp_seq_k (fun K75 hK75 => ?_)
      refine wp_block ?_
      refine wp_seq_k (fun K76 hK76 => ?_)
      refine wp_seq_k (fun K77 hK77 => ?_)
      refine wp_region_lit ?_
      refine wpList_plain rfl (fun Ko hKo => ?_)
      go_simp
      refine hKo _ _ ?_
      clear hKo Ko
      try simp only [Act.put, nm1, nm2, nm3, i64_w]
      refine wpList_plain rfl (fun Ko hKo => ?_)
      go_simp
      refine hKo _ _ ?_
      clear hKo Ko
      try simp only [Act.put, nm1, nm2, nm3, i64_w]
      refine wpList_plain rfl (fun Ko hKo => ?_)
      go_simp
      refine hKo _ _ ?_
      clear hKo Ko
      try simp only [Act.put, nm1, nm2, nm3, i64_w]
      refine step_index e6 (T := 30) (wanted_none rfl) rfl (by kernel_rfl) (by kernel_rfl) rfl rfl rfl (ha0.up hu7.out) A84.out ?_
      intro ad85 hat he
      have he86 := Aside0.mk he
      have hat87 := Aside0.mk hat
      clear he hat
      simp only [Act.put, nm1, nm2, nm3, i64_w]
      refine wpList_plain rfl (fun Ko hKo => ?_)
      go_simp
      refine hKo _ _ ?_
      clear hKo Ko
      try simp only [Act.put, nm1, nm2, nm3, i64_w]
      refine wpList_plain rfl (fun Ko hKo => ?_)
      go_simp
      refine hKo _ _ ?_
      clear hKo Ko
      try simp only [Act.put, nm1, nm2, nm3, i64_w]
      have cl0 : World.cell? _ ⟨ad85.block, ad85.off + 3, none⟩ = some _ := he86.out 3 _ rfl
      refine wpList_plain rfl (fun Ko hKo => ?_)
      go_simp
      refine hKo _ _ ?_
      clear hKo Ko
      clear cl0
      try simp only [Act.put, nm1, nm2, nm3, i64_w]
      refine wpList_plain rfl (fun Ko hKo => ?_)
      go_simp
      refine hKo _ _ ?_
      clear hKo Ko
      try simp only [Act.put, nm1, nm2, nm3, i64_w]
      refine wpList_plain rfl (fun Ko hKo => ?_)
      go_simp
      refine hKo _ _ ?_
      clear hKo Ko
      try simp only [Act.put, nm1, nm2, nm3, i64_w]
      refine wpList_nil ?_
      (try simp only [Exit.then, Exit.inBlock, ↓reduceIte, Nat.reduceEqDiff])
      refine hK77 _ _ ?_
      by_cases c88 : (t81 == (wrap64 ((wrap64 ((wrap64 (x4 + 1)) + 1)) + 1))) = true
      ·
       rw [if_pos c88] at H
       have c88n : (t81 != (wrap64 ((wrap64 ((wrap64 (x4 + 1)) + 1)) + 1))) = false := by rw [bne, c88]; rfl
       replace H := Option.bind_eq_some_iff.mp H
       obtain ⟨⟨t99, t100, t101, t102, t103, t104⟩, A105, H⟩ := H
       replace A105 := Aside0.mk A105
       try dsimp only at H
       try simp only [c88, c88n, Bool.not_true, Bool.not_false]
       refine wp_cond_false rfl ?_
       refine wp_skip ?_
       (try simp only [Exit.then, Exit.inBlock, ↓reduceIte, Nat.reduceEqDiff])
       refine hK76 _ _ ?_
       refine wp_region_lit ?_
       refine wpList_plain rfl (fun Ko hKo => ?_)
       go_simp
       refine hKo _ _ ?_
       clear hKo Ko
       try simp only [Act.put, nm1, nm2, nm3, i64_w]
       refine wpList_plain rfl (fun Ko hKo => ?_)
       go_simp
       refine hKo _ _ ?_
       clear hKo Ko
       try simp only [Act.put, nm1, nm2, nm3, i64_w]
       refine wpList_plain rfl (fun Ko hKo => ?_)
       go_simp
       refine hKo _ _ ?_
       clear hKo Ko
       try simp only [Act.put, nm1, nm2, nm3, i64_w]
       refine wpList_nil ?_
       (try simp only [Exit.then, Exit.inBlock, ↓reduceIte, Nat.reduceEqDiff])
       refine hK75 _ _ ?_
       refine wp_region_lit ?_
       refine wpList_plain rfl (fun Ko hKo => ?_)
       go_simp
       refine hKo _ _ ?_
       clear hKo Ko
       try simp only [Act.put, nm1, nm2, nm3, i64_w]
       refine wpList_plain rfl (fun Ko hKo => ?_)
       go_simp
       refine hKo _ _ ?_
       clear hKo Ko
       try simp only [Act.put, nm1, nm2, nm3, i64_w]
       try simp only [show wrap64 4 = 4 from wlit rfl]
       refine wpList_plain rfl (fun Ko hKo => ?_)
       go_simp
       refine hKo _ _ ?_
       clear hKo Ko
       try simp only [Act.put, nm1, nm2, nm3, i64_w]
       refine wpList_nil ?_
       (try simp only [Exit.then, Exit.inBlock, ↓reduceIte, Nat.reduceEqDiff])
       refine hK72 _ _ ?_
       refine rounds_k (fun K89 hK89 => ?_)
       refine wp_seq_k (fun K90 hK90 => ?_)
       refine wp_seq_k (fun K91 hK91 => ?_)
       refine wp_region_lit ?_
       refine wpList_plain rfl (fun Ko hKo => ?_)
       go_simp
       refine hKo _ _ ?_
       clear hKo Ko
       try simp only [Act.put, nm1, nm2, nm3, i64_w]
       refine wpList_plain rfl (fun Ko hKo => ?_)
       go_simp
       refine hKo _ _ ?_
       clear hKo Ko
       try simp only [Act.put, nm1, nm2, nm3, i64_w]
       refine wpList_nil ?_
       (try simp only [Exit.then, Exit.inBlock, ↓reduceIte, Nat.reduceEqDiff])
       refine hK91 _ _ ?_
       refine wp_cond_false rfl ?_
       refine wp_exit ?_
       (try simp only [Exit.then, Exit.inBlock, ↓reduceIte, Nat.reduceEqDiff])
       refine hK19 _ _ ?_
       refine wp_seq_k (fun K92 hK92 => ?_)
       refine wp_region_lit ?_
       refine wpList_plain rfl (fun Ko hKo => ?_)
       go_simp
       refine hKo _ _ ?_
       clear hKo Ko
       try simp only [Act.put, nm1, nm2, nm3, i64_w]
       refine wpList_nil ?_
       (try simp only [Exit.then, Exit.inBlock, ↓reduceIte, Nat.reduceEqDiff])
       refine hK92 _ _ ?_
       refine wp_block ?_
       refine wp_loop_rounds 40 ?_
       refine rounds_k (fun K93 hK93 => ?_)
       refine wp_seq_k (fun K94 hK94 => ?_)
       refine wp_seq_k (fun K95 hK95 => ?_)
       refine wp_region_lit ?_
       refine wpList_plain rfl (fun Ko hKo => ?_)
       go_simp
       refine hKo _ _ ?_
       clear hKo Ko
       try simp only [Act.put, nm1, nm2, nm3, i64_w]
       refine wpList_plain rfl (fun Ko hKo => ?_)
       go_simp
       refine hKo _ _ ?_
       clear hKo Ko
       try simp only [Act.put, nm1, nm2, nm3, i64_w]
       refine wpList_nil ?_
       (try simp only [Exit.then, Exit.inBlock, ↓reduceIte, Nat.reduceEqDiff])
       refine hK95 _ _ ?_
       refine wp_cond_true rfl ?_
       refine wp_skip ?_
       (try simp only [Exit.then, Exit.inBlock, ↓reduceIte, Nat.reduceEqDiff])
       refine hK94 _ _ ?_
       refine wp_seq_k (fun K96 hK96 => ?_)
       refine wp_block ?_
       refine wp_seq_k (fun K97 hK97 => ?_)
       refine wp_seq_k (fun K98 hK98 => ?_)
       refine wp_region_lit ?_
       refine wpList_plain rfl (fun Ko hKo => ?_)
       go_simp
       refine hKo _ _ ?_
       clear hKo Ko
       try simp only [Act.put, nm1, nm2, nm3, i64_w]
       refine wpList_plain rfl (fun Ko hKo => ?_)
       go_simp
       refine hKo _ _ ?_
       clear hKo Ko
       try simp only [Act.put, nm1, nm2, nm3, i64_w]
       refine wpList_plain rfl (fun Ko hKo => ?_)
       go_simp
       refine hKo _ _ ?_
       clear hKo Ko
       try simp only [Act.put, nm1, nm2, nm3, i64_w]
       refine step_index e6 (T := 30) (wanted_none rfl) rfl (by kernel_rfl) (by kernel_rfl) rfl rfl rfl (ha0.up hu7.out) A105.out ?_
       intro ad106 hat he
       have he107 := Aside0.mk he
       have hat108 := Aside0.mk hat
       clear he hat
       simp only [Act.put, nm1, nm2, nm3, i64_w]
       refine wpList_plain rfl (fun Ko hKo => ?_)
       go_simp
       refine hKo _ _ ?_
       clear hKo Ko
       try simp only [Act.put, nm1, nm2, nm3, i64_w]
       refine wpList_plain rfl (fun Ko hKo => ?_)
       go_simp
       refine hKo _ _ ?_
       clear hKo Ko
       try simp only [Act.put, nm1, nm2, nm3, i64_w]
       have cl0 : World.cell? _ ⟨ad106.block, ad106.off + 4, none⟩ = some _ := he107.out 4 _ rfl
       refine wpList_plain rfl (fun Ko hKo => ?_)
       go_simp
       refine hKo _ _ ?_
       clear hKo Ko
       clear cl0
       try simp only [Act.put, nm1, nm2, nm3, i64_w]
       refine wpList_plain rfl (fun Ko hKo => ?_)
       go_simp
       refine hKo _ _ ?_
       clear hKo Ko
       try simp only [Act.put, nm1, nm2, nm3, i64_w]
       refine wpList_plain rfl (fun Ko hKo => ?_)
       go_simp
       refine hKo _ _ ?_
       clear hKo Ko
       try simp only [Act.put, nm1, nm2, nm3, i64_w]
       refine wpList_nil ?_
       (try simp only [Exit.then, Exit.inBlock, ↓reduceIte, Nat.reduceEqDiff])
       refine hK98 _ _ ?_
       by_cases c109 : (t103 == (wrap64 ((wrap64 ((wrap64 ((wrap64 (x4 + 1)) + 1)) + 1)) + 1))) = true
       ·
        rw [if_pos c109] at H
        have c109n : (t103 != (wrap64 ((wrap64 ((wrap64 ((wrap64 (x4 + 1)) + 1)) + 1)) + 1))) = false := by rw [bne, c109]; rfl
        replace H := Option.bind_eq_some_iff.mp H
        obtain ⟨⟨t116, t117, t118, t119, t120, t121⟩, A122, H⟩ := H
        replace A122 := Aside0.mk A122
        try dsimp only at H
        try simp only [c109, c109n, Bool.not_true, Bool.not_false]
        refine wp_cond_false rfl ?_
        refine wp_skip ?_
        (try simp only [Exit.then, Exit.inBlock, ↓reduceIte, Nat.reduceEqDiff])
        refine hK97 _ _ ?_
        refine wp_region_lit ?_
        refine wpList_plain rfl (fun Ko hKo => ?_)
        go_simp
        refine hKo _ _ ?_
        clear hKo Ko
        try simp only [Act.put, nm1, nm2, nm3, i64_w]
        refine wpList_plain rfl (fun Ko hKo => ?_)
        go_simp
        refine hKo _ _ ?_
        clear hKo Ko
        try simp only [Act.put, nm1, nm2, nm3, i64_w]
        refine wpList_plain rfl (fun Ko hKo => ?_)
        go_simp
        refine hKo _ _ ?_
        clear hKo Ko
        try simp only [Act.put, nm1, nm2, nm3, i64_w]
        refine wpList_nil ?_
        (try simp only [Exit.then, Exit.inBlock, ↓reduceIte, Nat.reduceEqDiff])
        refine hK96 _ _ ?_
        refine wp_region_lit ?_
        refine wpList_plain rfl (fun Ko hKo => ?_)
        go_simp
        refine hKo _ _ ?_
        clear hKo Ko
        try simp only [Act.put, nm1, nm2, nm3, i64_w]
        refine wpList_plain rfl (fun Ko hKo => ?_)
        go_simp
        refine hKo _ _ ?_
        clear hKo Ko
        try simp only [Act.put, nm1, nm2, nm3, i64_w]
        try simp only [show wrap64 1 = 1 from wlit rfl]
        refine wpList_plain rfl (fun Ko hKo => ?_)
        go_simp
        refine hKo _ _ ?_
        clear hKo Ko
        try simp only [Act.put, nm1, nm2, nm3, i64_w]
        refine wpList_nil ?_
        (try simp only [Exit.then, Exit.inBlock, ↓reduceIte, Nat.reduceEqDiff])
        refine hK93 _ _ ?_
        refine rounds_k (fun K110 hK110 => ?_)
        refine wp_seq_k (fun K111 hK111 => ?_)
        refine wp_seq_k (fun K112 hK112 => ?_)
        refine wp_region_lit ?_
        refine wpList_plain rfl (fun Ko hKo => ?_)
        go_simp
        refine hKo _ _ ?_
        clear hKo Ko
        try simp only [Act.put, nm1, nm2, nm3, i64_w]
        refine wpList_plain rfl (fun Ko hKo => ?_)
        go_simp
        refine hKo _ _ ?_
        clear hKo Ko
        try simp only [Act.put, nm1, nm2, nm3, i64_w]
        refine wpList_nil ?_
        (try simp only [Exit.then, Exit.inBlock, ↓reduceIte, Nat.reduceEqDiff])
        refine hK112 _ _ ?_
        refine wp_cond_true rfl ?_
        refine wp_skip ?_
        (try simp only [Exit.then, Exit.inBlock, ↓reduceIte, Nat.reduceEqDiff])
        refine hK111 _ _ ?_
        refine wp_seq_k (fun K113 hK113 => ?_)
        refine wp_block ?_
        refine wp_seq_k (fun K114 hK114 => ?_)
        refine wp_seq_k (fun K115 hK115 => ?_)
        refine wp_region_lit ?_
        refine wpList_plain rfl (fun Ko hKo => ?_)
        go_simp
        refine hKo _ _ ?_
        clear hKo Ko
        try simp only [Act.put, nm1, nm2, nm3, i64_w]
        refine wpList_plain rfl (fun Ko hKo => ?_)
        go_simp
        refine hKo _ _ ?_
        clear hKo Ko
        try simp only [Act.put, nm1, nm2, nm3, i64_w]
        refine wpList_plain rfl (fun Ko hKo => ?_)
        go_simp
        refine hKo _ _ ?_
        clear hKo Ko
        try simp only [Act.put, nm1, nm2, nm3, i64_w]
        refine step_index e6 (T := 30) (wanted_none rfl) rfl (by kernel_rfl) (by kernel_rfl) rfl rfl rfl (ha0.up hu7.out) A122.out ?_
        intro ad123 hat he
        have he124 := Aside0.mk he
        have hat125 := Aside0.mk hat
        clear he hat
        simp only [Act.put, nm1, nm2, nm3, i64_w]
        refine wpList_plain rfl (fun Ko hKo => ?_)
        go_simp
        refine hKo _ _ ?_
        clear hKo Ko
        try simp only [Act.put, nm1, nm2, nm3, i64_w]
        refine wpList_plain rfl (fun Ko hKo => ?_)
        go_simp
        refine hKo _ _ ?_
        clear hKo Ko
        try simp only [Act.put, nm1, nm2, nm3, i64_w]
        have cl0 : World.cell? _ ⟨ad123.block, ad123.off + 5, none⟩ = some _ := he124.out 5 _ rfl
        refine wpList_plain rfl (fun Ko hKo => ?_)
        go_simp
        refine hKo _ _ ?_
        clear hKo Ko
        clear cl0
        try simp only [Act.put, nm1, nm2, nm3, i64_w]
        refine wpList_plain rfl (fun Ko hKo => ?_)
        go_simp
        refine hKo _ _ ?_
        clear hKo Ko
        try simp only [Act.put, nm1, nm2, nm3, i64_w]
        refine wpList_plain rfl (fun Ko hKo => ?_)
        go_simp
        refine hKo _ _ ?_
        clear hKo Ko
        try simp only [Act.put, nm1, nm2, nm3, i64_w]
        refine wpList_nil ?_
        (try simp only [Exit.then, Exit.inBlock, ↓reduceIte, Nat.reduceEqDiff])
        refine hK115 _ _ ?_
        by_cases c126 : (t121 == (wrap64 ((wrap64 ((wrap64 ((wrap64 ((wrap64 (x4 + 1)) + 1)) + 1)) + 1)) + 1))) = true
        ·
         rw [if_pos c126] at H
         have c126n : (t121 != (wrap64 ((wrap64 ((wrap64 ((wrap64 ((wrap64 (x4 + 1)) + 1)) + 1)) + 1)) + 1))) = false := by rw [bne, c126]; rfl
         have HL130 := Aside0.mk H
         clear H
         try simp only [c126, c126n, Bool.not_true, Bool.not_false]
         refine wp_cond_false rfl ?_
         refine wp_skip ?_
         (try simp only [Exit.then, Exit.inBlock, ↓reduceIte, Nat.reduceEqDiff])
         refine hK114 _ _ ?_
         refine wp_region_lit ?_
         refine wpList_plain rfl (fun Ko hKo => ?_)
         go_simp
         refine hKo _ _ ?_
         clear hKo Ko
         try simp only [Act.put, nm1, nm2, nm3, i64_w]
         refine wpList_plain rfl (fun Ko hKo => ?_)
         go_simp
         refine hKo _ _ ?_
         clear hKo Ko
         try simp only [Act.put, nm1, nm2, nm3, i64_w]
         refine wpList_plain rfl (fun Ko hKo => ?_)
         go_simp
         refine hKo _ _ ?_
         clear hKo Ko
         try simp only [Act.put, nm1, nm2, nm3, i64_w]
         refine wpList_nil ?_
         (try simp only [Exit.then, Exit.inBlock, ↓reduceIte, Nat.reduceEqDiff])
         refine hK113 _ _ ?_
         refine wp_region_lit ?_
         refine wpList_plain rfl (fun Ko hKo => ?_)
         go_simp
         refine hKo _ _ ?_
         clear hKo Ko
         try simp only [Act.put, nm1, nm2, nm3, i64_w]
         refine wpList_plain rfl (fun Ko hKo => ?_)
         go_simp
         refine hKo _ _ ?_
         clear hKo Ko
         try simp only [Act.put, nm1, nm2, nm3, i64_w]
         try simp only [show wrap64 2 = 2 from wlit rfl]
         refine wpList_plain rfl (fun Ko hKo => ?_)
         go_simp
         refine hKo _ _ ?_
         clear hKo Ko
         try simp only [Act.put, nm1, nm2, nm3, i64_w]
         refine wpList_nil ?_
         (try simp only [Exit.then, Exit.inBlock, ↓reduceIte, Nat.reduceEqDiff])
         refine hK110 _ _ ?_
         refine rounds_k (fun K127 hK127 => ?_)
         refine wp_seq_k (fun K128 hK128 => ?_)
         refine wp_seq_k (fun K129 hK129 => ?_)
         refine wp_region_lit ?_
         refine wpList_plain rfl (fun Ko hKo => ?_)
         go_simp
         refine hKo _ _ ?_
         clear hKo Ko
         try simp only [Act.put, nm1, nm2, nm3, i64_w]
         refine wpList_plain rfl (fun Ko hKo => ?_)
         go_simp
         refine hKo _ _ ?_
         clear hKo Ko
         try simp only [Act.put, nm1, nm2, nm3, i64_w]
         refine wpList_nil ?_
         (try simp only [Exit.then, Exit.inBlock, ↓reduceIte, Nat.reduceEqDiff])
         refine hK129 _ _ ?_
         refine wp_cond_false rfl ?_
         refine wp_exit ?_
         (try simp only [Exit.then, Exit.inBlock, ↓reduceIte, Nat.reduceEqDiff])
         refine hK18 _ _ ?_
         refine wp_region_lit ?_
         refine wpList_plain rfl (fun Ko hKo => ?_)
         go_simp
         refine hKo _ _ ?_
         clear hKo Ko
         try simp only [Act.put, nm1, nm2, nm3, i64_w]
         refine wpList_plain rfl (fun Ko hKo => ?_)
         go_simp
         refine hKo _ _ ?_
         clear hKo Ko
         try simp only [Act.put, nm1, nm2, nm3, i64_w]
         refine wpList_plain rfl (fun Ko hKo => ?_)
         go_simp
         refine hKo _ _ ?_
         clear hKo Ko
         try simp only [Act.put, nm1, nm2, nm3, i64_w]
         refine wpList_nil ?_
         (try simp only [Exit.then, Exit.inBlock, ↓reduceIte, Nat.reduceEqDiff])
         refine hK14 _ _ ?_
         go_roundg k10
         case measure => exact Nat.lt_succ_self _
         case rel => exact ⟨wrap64 ((wrap64 ((wrap64 ((wrap64 ((wrap64 ((wrap64 (x4 + 1)) + 1)) + 1)) + 1)) + 1)) + 1), wrap64 (x5 + 1), (by first | rfl | simp), (by first | rfl | simp), HL130, ⟨by have := hk11.out; omega⟩, ⟨hu7.out⟩, ⟨(Nat.le_trans (Nat.le_refl _) hz8.out)⟩⟩
        ·
         rw [if_neg c126] at H
         replace c126 := Bool.eq_false_iff.mpr c126
         have c126n : (t121 != (wrap64 ((wrap64 ((wrap64 ((wrap64 ((wrap64 (x4 + 1)) + 1)) + 1)) + 1)) + 1))) = true := by rw [bne, c126]; rfl
         have c126p : ¬ t121 = (wrap64 ((wrap64 ((wrap64 ((wrap64 ((wrap64 (x4 + 1)) + 1)) + 1)) + 1)) + 1)) := fun e => by simp [e] at c126
         obtain rfl := Option.some.inj H
         try simp only [c126, c126n, Bool.not_true, Bool.not_false]
         refine wp_cond_true rfl ?_
         refine wp_seq_k (fun K131 hK131 => ?_)
         refine wp_region_lit ?_
         refine wpList_plain rfl (fun Ko hKo => ?_)
         go_simp
         refine hKo _ _ ?_
         clear hKo Ko
         try simp only [Act.put, nm1, nm2, nm3, i64_w]
         refine wpList_nil ?_
         (try simp only [Exit.then, Exit.inBlock, ↓reduceIte, Nat.reduceEqDiff])
         refine hK131 _ _ ?_
         refine wp_ret ?_
         (try simp only [Exit.then, Exit.inBlock, ↓reduceIte, Nat.reduceEqDiff])
         refine hQf _ _ _ ?_
         exact bodyPost_ret (v := .int .i64 (-1)) (by first | rfl | (simp [results, Try.results42, go_sem]; done) | (simp [results, Try.results42, go_sem]; rfl)) rfl ⟨rfl, hu7.out⟩
       ·
        rw [if_neg c109] at H
        replace c109 := Bool.eq_false_iff.mpr c109
        have c109n : (t103 != (wrap64 ((wrap64 ((wrap64 ((wrap64 (x4 + 1)) + 1)) + 1)) + 1))) = true := by rw [bne, c109]; rfl
        have c109p : ¬ t103 = (wrap64 ((wrap64 ((wrap64 ((wrap64 (x4 + 1)) + 1)) + 1)) + 1)) := fun e => by simp [e] at c109
        obtain rfl := Option.some.inj H
        try simp only [c109, c109n, Bool.not_true, Bool.not_false]
        refine wp_cond_true rfl ?_
        refine wp_seq_k (fun K132 hK132 => ?_)
        refine wp_region_lit ?_
        refine wpList_plain rfl (fun Ko hKo => ?_)
        go_simp
        refine hKo _ _ ?_
        clear hKo Ko
        try simp only [Act.put, nm1, nm2, nm3, i64_w]
        refine wpList_nil ?_
        (try simp only [Exit.then, Exit.inBlock, ↓reduceIte, Nat.reduceEqDiff])
        refine hK132 _ _ ?_
        refine wp_ret ?_
        (try simp only [Exit.then, Exit.inBlock, ↓reduceIte, Nat.reduceEqDiff])
        refine hQf _ _ _ ?_
        exact bodyPost_ret (v := .int .i64 (-1)) (by first | rfl | (simp [results, Try.results42, go_sem]; done) | (simp [results, Try.results42, go_sem]; rfl)) rfl ⟨rfl, hu7.out⟩
      ·
       rw [if_neg c88] at H
       replace c88 := Bool.eq_false_iff.mpr c88
       have c88n : (t81 != (wrap64 ((wrap64 ((wrap64 (x4 + 1)) + 1)) + 1))) = true := by rw [bne, c88]; rfl
       have c88p : ¬ t81 = (wrap64 ((wrap64 ((wrap64 (x4 + 1)) + 1)) + 1)) := fun e => by simp [e] at c88
       obtain rfl := Option.some.inj H
       try simp only [c88, c88n, Bool.not_true, Bool.not_false]
       refine wp_cond_true rfl ?_
       refine wp_seq_k (fun K133 hK133 => ?_)
       refine wp_region_lit ?_
       refine wpList_plain rfl (fun Ko hKo => ?_)
       go_simp
       refine hKo _ _ ?_
       clear hKo Ko
       try simp only [Act.put, nm1, nm2, nm3, i64_w]
       refine wpList_nil ?_
       (try simp only [Exit.then, Exit.inBlock, ↓reduceIte, Nat.reduceEqDiff])
       refine hK133 _ _ ?_
       refine wp_ret ?_
       (try simp only [Exit.then, Exit.inBlock, ↓reduceIte, Nat.reduceEqDiff])
       refine hQf _ _ _ ?_
       exact bodyPost_ret (v := .int .i64 (-1)) (by first | rfl | (simp [results, Try.results42, go_sem]; done) | (simp [results, Try.results42, go_sem]; rfl)) rfl ⟨rfl, hu7.out⟩
     ·
      rw [if_neg c71] at H
      replace c71 := Bool.eq_false_iff.mpr c71
      have c71n : (t63 != (wrap64 ((wrap64 (x4 + 1)) + 1))) = true := by rw [bne, c71]; rfl
      have c71p : ¬ t63 = (wrap64 ((wrap64 (x4 + 1)) + 1)) := fun e => by simp [e] at c71
      obtain rfl := Option.some.inj H
      try simp only [c71, c71n, Bool.not_true, Bool.not_false]
      refine wp_cond_true rfl ?_
      refine wp_seq_k (fun K134 hK134 => ?_)
      refine wp_region_lit ?_
      refine wpList_plain rfl (fun Ko hKo => ?_)
      go_simp
      refine hKo _ _ ?_
      clear hKo Ko
      try simp only [Act.put, nm1, nm2, nm3, i64_w]
      refine wpList_nil ?_
      (try simp only [Exit.then, Exit.inBlock, ↓reduceIte, Nat.reduceEqDiff])
      refine hK134 _ _ ?_
      refine wp_ret ?_
      (try simp only [Exit.then, Exit.inBlock, ↓reduceIte, Nat.reduceEqDiff])
      refine hQf _ _ _ ?_
      exact bodyPost_ret (v := .int .i64 (-1)) (by first | rfl | (simp [results, Try.results42, go_sem]; done) | (simp [results, Try.results42, go_sem]; rfl)) rfl ⟨rfl, hu7.out⟩
    ·
     rw [if_neg c54] at H
     replace c54 := Bool.eq_false_iff.mpr c54
     have c54n : (t45 != (wrap64 (x4 + 1))) = true := by rw [bne, c54]; rfl
     have c54p : ¬ t45 = (wrap64 (x4 + 1)) := fun e => by simp [e] at c54
     obtain rfl := Option.some.inj H
     try simp only [c54, c54n, Bool.not_true, Bool.not_false]
     refine wp_cond_true rfl ?_
     refine wp_seq_k (fun K135 hK135 => ?_)
     refine wp_region_lit ?_
     refine wpList_plain rfl (fun Ko hKo => ?_)
     go_simp
     refine hKo _ _ ?_
     clear hKo Ko
     try simp only [Act.put, nm1, nm2, nm3, i64_w]
     refine wpList_nil ?_
     (try simp only [Exit.then, Exit.inBlock, ↓reduceIte, Nat.reduceEqDiff])
     refine hK135 _ _ ?_
     refine wp_ret ?_
     (try simp only [Exit.then, Exit.inBlock, ↓reduceIte, Nat.reduceEqDiff])
     refine hQf _ _ _ ?_
     exact bodyPost_ret (v := .int .i64 (-1)) (by first | rfl | (simp [results, Try.results42, go_sem]; done) | (simp [results, Try.results42, go_sem]; rfl)) rfl ⟨rfl, hu7.out⟩
   ·
    rw [if_neg c37] at H
    replace c37 := Bool.eq_false_iff.mpr c37
    have c37n : (t27 != x4) = true := by rw [bne, c37]; rfl
    have c37p : ¬ t27 = x4 := fun e => by simp [e] at c37
    obtain rfl := Option.some.inj H
    try simp only [c37, c37n, Bool.not_true, Bool.not_false]
    refine wp_cond_true rfl ?_
    refine wp_seq_k (fun K136 hK136 => ?_)
    refine wp_region_lit ?_
    refine wpList_plain rfl (fun Ko hKo => ?_)
    go_simp
    refine hKo _ _ ?_
    clear hKo Ko
    try simp only [Act.put, nm1, nm2, nm3, i64_w]
    refine wpList_nil ?_
    (try simp only [Exit.then, Exit.inBlock, ↓reduceIte, Nat.reduceEqDiff])
    refine hK136 _ _ ?_
    refine wp_ret ?_
    (try simp only [Exit.then, Exit.inBlock, ↓reduceIte, Nat.reduceEqDiff])
    refine hQf _ _ _ ?_
    exact bodyPost_ret (v := .int .i64 (-1)) (by first | rfl | (simp [results, Try.results42, go_sem]; done) | (simp [results, Try.results42, go_sem]; rfl)) rfl ⟨rfl, hu7.out⟩
  ·
   rw [if_neg c17] at H
   replace c17 := Bool.eq_false_iff.mpr c17
   obtain rfl := Option.some.inj H
   try simp only [c17, Bool.not_true, Bool.not_false]
   refine wp_cond_false rfl ?_
   refine wp_exit ?_
   (try simp only [Exit.then, Exit.inBlock, ↓reduceIte, Nat.reduceEqDiff])
   refine hK2 _ _ ?_
   refine wp_seq_k (fun K137 hK137 => ?_)
   refine wp_region_lit ?_
   refine wpList_plain rfl (fun Ko hKo => ?_)
   go_simp
   refine hKo _ _ ?_
   clear hKo Ko
   try simp only [Act.put, nm1, nm2, nm3, i64_w]
   refine wpList_plain rfl (fun Ko hKo => ?_)
   go_simp
   refine hKo _ _ ?_
   clear hKo Ko
   try simp only [Act.put, nm1, nm2, nm3, i64_w]
   refine wpList_nil ?_
   (try simp only [Exit.then, Exit.inBlock, ↓reduceIte, Nat.reduceEqDiff])
   refine hK137 _ _ ?_
   refine wp_ret ?_
   (try simp only [Exit.then, Exit.inBlock, ↓reduceIte, Nat.reduceEqDiff])
   refine hQf _ _ _ ?_
   exact bodyPost_ret (v := .int .i64 x4) (by first | rfl | (simp [results, Try.results42, go_sem]; done) | (simp [results, Try.results42, go_sem]; rfl)) rfl ⟨rfl, hu7.out⟩

end Go.Proofs.Ytbibgeoohpgaeaa
