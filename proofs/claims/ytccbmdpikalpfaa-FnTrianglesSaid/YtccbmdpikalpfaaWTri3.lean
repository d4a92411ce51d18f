/- The walks: each of these functions of the program computes what its plain function says: spec_l01Inverse, spec_l01Normal, spec_l02Through, spec_l04Altitude, spec_l01Meet, spec_l04Orthocentre, spec_OrthocentreOf, impl_allPoints, impl_quadrance, impl_circumcentre, impl_CircumcentreOf, spec_l04Circumcentre, spec_CircumcentreOf, impl_CircumquadranceOf, spec_l02Product, spec_l02Quadrance, spec_CircumquadranceOf, impl_AltitudeOf, spec_AltitudeOf, spec_DrawMedianOf, spec_DrawCentroidOf. -/
import Derived.Test.YtccbmdpikalpfaaProg
import Derived.Test.YtccbmdpikalpfaaD1
import Derived.WalkKit
import Derived.KernelRfl
import Derived.BigQuiet
import Derived.Deep.LoopGhost
import Derived.Laws.StructEq
import Derived.Test.YtccbmdpikalpfaaWTri2
namespace Go.Proofs.Ytccbmdpikalpfaa
open Go Go.RowKit
attribute [local go_sem] Oper.quiet Oper.quietAt Oper.quietUpon Act.put nm1 nm2 nm3 i64_w
attribute [local irreducible] wpList
set_option linter.unusedVariables false
set_option linter.unusedSimpArgs false
attribute [local go_sem] eqT30
attribute [local go_sem] eqT34

set_option maxHeartbeats 40000000 in
set_option maxRecDepth 100000 in
theorem spec_l01Inverse.calls (K : Nat) (a0 : Int) (a1 : Int) (r0 : Int) (w : World)  (h : spec_l01Inverse.f K a0 a1 = some (r0)) :
    Calls Try.prog 129 #[.int .i64 a0, .int .i64 a1] w fun e w' => e = .returned (.int .i64 r0) ∧ Up w w' := by
 have H : (((spec_l01Mod.f K a0 a1).bind fun t3 => (spec_l01Inverse.l0 K a1 K 1 t3 (wrap64 (a1 - 2)))) : Option (Int)) = some (r0) := h
 clear h
 replace H := Option.bind_eq_some_iff.mp H
 obtain ⟨t3, A4, H⟩ := H
 replace A4 := Aside0.mk A4
 try dsimp only at H
 go_enter Try.func129, Try.ntmps129
 refine wp_hide (fun Qf hQf => ?_)
 refine wp_seq_k (fun K1 hK1 => ?_)
 refine wp_region_lit ?_
 refine wpp fun K_ h_ => ?_; go_simp; refine h_ _ _ ?_; clear h_ K_
 refine wpList_nil ?_
 (try simp only [Exit.then, Exit.inBlock, ↓reduceIte, Nat.reduceEqDiff])
 refine hK1 _ _ ?_
 refine wp_seq_k (fun K2 hK2 => ?_)
 refine wp_region_lit ?_
 refine wpp fun K_ h_ => ?_; go_simp; refine h_ _ _ ?_; clear h_ K_
 refine wpp fun K_ h_ => ?_; go_simp; refine h_ _ _ ?_; clear h_ K_
 refine step_call (wanted_none rfl) (by go_simp <;> rfl) (spec_l01Mod.calls K a0 a1 t3 w  A4.out) ?_
 rintro e w5 ⟨rfl, hu⟩
 have hu6 := Aside0.mk hu
 clear hu
 refine ⟨_, rfl, ?_⟩
 simp only [Act.put, nm1, nm2, nm3, i64_w]
 refine wpp fun K_ h_ => ?_; go_simp; refine h_ _ _ ?_; clear h_ K_
 refine wpp fun K_ h_ => ?_; go_simp; refine h_ _ _ ?_; clear h_ K_
 refine wpList_nil ?_
 (try simp only [Exit.then, Exit.inBlock, ↓reduceIte, Nat.reduceEqDiff])
 refine hK2 _ _ ?_
 refine wp_seq_k (fun K7 hK7 => ?_)
 refine wp_seq_k (fun K8 hK8 => ?_)
 refine wp_region_lit ?_
 refine wpp fun K_ h_ => ?_; go_simp; refine h_ _ _ ?_; clear h_ K_
 refine wpp fun K_ h_ => ?_; go_simp; refine h_ _ _ ?_; clear h_ K_
 refine wpp fun K_ h_ => ?_; go_simp; refine h_ _ _ ?_; clear h_ K_
 refine wpList_nil ?_
 (try simp only [Exit.then, Exit.inBlock, ↓reduceIte, Nat.reduceEqDiff])
 refine hK8 _ _ ?_
 refine wp_block ?_
 have HL15 := Aside0.mk H
 clear H
 go_loopg [5, 6, 7] K (fun kq v5 v6 v7 w' => ∃ (x9 : Int) (x10 : Int) (x11 : Int), v5 = .int .i64 x9 ∧ v6 = .int .i64 x10 ∧ v7 = .int .i64 x11 ∧ Aside0 (spec_l01Inverse.l0 K a1 kq x9 x10 x11 = some (r0)) ∧ Aside0 (kq ≤ K) ∧ Aside0 (Up w5 w') ∧ Aside0 (w5.heap.size ≤ w'.heap.size))
 case atStart => exact ⟨1, t3, wrap64 (a1 - 2), (by first | rfl | simp), (by first | rfl | simp), (by first | rfl | simp), HL15, ⟨Nat.le_refl _⟩, ⟨(Up.refl _)⟩, ⟨Nat.le_refl _⟩⟩
 case round =>
  rename_i J19 K20 hJ19 hK20
  obtain ⟨x9, x10, x11, rfl, rfl, rfl, HL18, hk17, hu13, hz14⟩ := hrel
  obtain ⟨w12, rfl⟩ : ∃ wo : World, wo = wr := ⟨_, rfl⟩
  obtain ⟨k16, rfl⟩ | rfl : (∃ k, gk = k + 1) ∨ gk = 0 := by rcases gk with _ | k; exact .inr rfl; exact .inl ⟨k, rfl⟩
  case inr => exact absurd HL18.out (by simp [spec_l01Inverse.l0])
  have H := HL18.out
  clear HL18
  rw [spec_l01Inverse.l0] at H
  refine wp_seq_k (fun K21 hK21 => ?_)
  refine wp_seq_k (fun K22 hK22 => ?_)
  refine wp_region_lit ?_
  refine wpp fun K_ h_ => ?_; go_simp; refine h_ _ _ ?_; clear h_ K_
  refine wpp fun K_ h_ => ?_; go_simp; refine h_ _ _ ?_; clear h_ K_
  refine wpList_nil ?_
  (try simp only [Exit.then, Exit.inBlock, ↓reduceIte, Nat.reduceEqDiff])
  refine hK22 _ _ ?_
  by_cases c23 : (decide (0 < x11)) = true
  rotate_left
  ·
   rw [if_neg c23] at H; replace c23 := Bool.eq_false_iff.mpr c23
   obtain rfl := Option.some.inj H
   try simp only [c23, Bool.not_true, Bool.not_false]
   refine wp_cond_false rfl ?_
   refine wp_exit ?_
   (try simp only [Exit.then, Exit.inBlock, ↓reduceIte, Nat.reduceEqDiff])
   refine hK7 _ _ ?_
   refine wp_seq_k (fun K32 hK32 => ?_)
   refine wp_region_lit ?_
   refine wpp fun K_ h_ => ?_; go_simp; refine h_ _ _ ?_; clear h_ K_
   refine wpp fun K_ h_ => ?_; go_simp; refine h_ _ _ ?_; clear h_ K_
   refine wpList_nil ?_
   (try simp only [Exit.then, Exit.inBlock, ↓reduceIte, Nat.reduceEqDiff])
   refine hK32 _ _ ?_
   refine wp_ret ?_
   (try simp only [Exit.then, Exit.inBlock, ↓reduceIte, Nat.reduceEqDiff])
   refine hQf _ _ _ ?_
   exact bodyPost_ret (v := .int .i64 x9) (by first | rfl | (simp [results, Try.results129, go_sem]; done) | (simp [results, Try.results129, go_sem]; rfl)) rfl ⟨rfl, (hu6.out.trans hu13.out)⟩
  rw [if_pos c23] at H
  try simp only [c23, Bool.not_true, Bool.not_false]
  refine wp_cond_true rfl ?_
  refine wp_skip ?_
  (try simp only [Exit.then, Exit.inBlock, ↓reduceIte, Nat.reduceEqDiff])
  refine hK21 _ _ ?_
  refine wp_seq_k (fun K24 hK24 => ?_)
  refine wp_block ?_
  refine wp_seq_k (fun K25 hK25 => ?_)
  refine wp_seq_k (fun K26 hK26 => ?_)
  refine wp_region_lit ?_
  refine wpp fun K_ h_ => ?_; go_simp; refine h_ _ _ ?_; clear h_ K_
  refine wpp fun K_ h_ => ?_; go_simp; refine h_ _ _ ?_; clear h_ K_
  refine wpp fun K_ h_ => ?_; go_simp; refine h_ _ _ ?_; clear h_ K_
  refine wpList_nil ?_
  (try simp only [Exit.then, Exit.inBlock, ↓reduceIte, Nat.reduceEqDiff])
  refine hK26 _ _ ?_
  by_cases c27 : ((Int.tmod x11 2) == 1) = true
  rotate_left
  ·
   rw [if_neg c27] at H; replace c27 := Bool.eq_false_iff.mpr c27
   have c27n : ((Int.tmod x11 2) != 1) = true := by rw [bne, c27]; rfl
   have c27p : ¬ (Int.tmod x11 2) = 1 := fun e => by simp [e] at c27
   try simp only [c27, c27n, Bool.not_true, Bool.not_false]
   refine wp_cond_false rfl ?_
   refine wp_skip ?_
   (try simp only [Exit.then, Exit.inBlock, ↓reduceIte, Nat.reduceEqDiff])
   refine hK25 _ _ ?_
   refine wp_region_lit ?_
   refine wpp fun K_ h_ => ?_; go_simp; refine h_ _ _ ?_; clear h_ K_
   refine wpp fun K_ h_ => ?_; go_simp; refine h_ _ _ ?_; clear h_ K_
   refine wpp fun K_ h_ => ?_; go_simp; refine h_ _ _ ?_; clear h_ K_
   refine wpp fun K_ h_ => ?_; go_simp; refine h_ _ _ ?_; clear h_ K_
   by_cases c30 : (a1 == 0) = true
   ·
    rw [if_pos c30] at H
    have c30n : (a1 != 0) = false := by rw [bne, c30]; rfl
    exact absurd H (by simp)
   rw [if_neg c30] at H; replace c30 := Bool.eq_false_iff.mpr c30
   have c30n : (a1 != 0) = true := by rw [bne, c30]; rfl
   have c30p : ¬ a1 = 0 := fun e => by simp [e] at c30
   have HL31 := Aside0.mk H
   clear H
   try simp only [c30, c30n, Bool.not_true, Bool.not_false]
   refine wpp fun K_ h_ => ?_; go_simp; refine h_ _ _ ?_; clear h_ K_
   refine wpp fun K_ h_ => ?_; go_simp; refine h_ _ _ ?_; clear h_ K_
   refine wpList_nil ?_
   (try simp only [Exit.then, Exit.inBlock, ↓reduceIte, Nat.reduceEqDiff])
   refine hK24 _ _ ?_
   refine wp_region_lit ?_
   refine wpp fun K_ h_ => ?_; go_simp; refine h_ _ _ ?_; clear h_ K_
   refine wpp fun K_ h_ => ?_; go_simp; refine h_ _ _ ?_; clear h_ K_
   refine wpp fun K_ h_ => ?_; go_simp; refine h_ _ _ ?_; clear h_ K_
   refine wpList_nil ?_
   (try simp only [Exit.then, Exit.inBlock, ↓reduceIte, Nat.reduceEqDiff])
   refine hK20 _ _ ?_
   go_roundg k16
   case measure => exact Nat.lt_succ_self _
   case rel => exact ⟨x9, Int.tmod (wrap64 (x10 * x10)) a1, wrap64 (Int.tdiv x11 2), (by first | rfl | simp), (by first | rfl | simp), (by first | rfl | simp), HL31, ⟨by have := hk17.out; omega⟩, ⟨hu13.out⟩, ⟨(Nat.le_trans (Nat.le_refl _) hz14.out)⟩⟩
  rw [if_pos c27] at H
  have c27n : ((Int.tmod x11 2) != 1) = false := by rw [bne, c27]; rfl
  try simp only [c27, c27n, Bool.not_true, Bool.not_false]
  refine wp_cond_true rfl ?_
  refine wp_region_lit ?_
  refine wpp fun K_ h_ => ?_; go_simp; refine h_ _ _ ?_; clear h_ K_
  refine wpp fun K_ h_ => ?_; go_simp; refine h_ _ _ ?_; clear h_ K_
  refine wpp fun K_ h_ => ?_; go_simp; refine h_ _ _ ?_; clear h_ K_
  refine wpp fun K_ h_ => ?_; go_simp; refine h_ _ _ ?_; clear h_ K_
  by_cases c28 : (a1 == 0) = true
  ·
   rw [if_pos c28] at H
   have c28n : (a1 != 0) = false := by rw [bne, c28]; rfl
   exact absurd H (by simp)
  rw [if_neg c28] at H; replace c28 := Bool.eq_false_iff.mpr c28
  have c28n : (a1 != 0) = true := by rw [bne, c28]; rfl
  have c28p : ¬ a1 = 0 := fun e => by simp [e] at c28
  have HL29 := Aside0.mk H
  clear H
  try simp only [c28, c28n, Bool.not_true, Bool.not_false]
  refine wpp fun K_ h_ => ?_; go_simp; refine h_ _ _ ?_; clear h_ K_
  refine wpp fun K_ h_ => ?_; go_simp; refine h_ _ _ ?_; clear h_ K_
  refine wpList_nil ?_
  (try simp only [Exit.then, Exit.inBlock, ↓reduceIte, Nat.reduceEqDiff])
  refine hK25 _ _ ?_
  refine wp_region_lit ?_
  refine wpp fun K_ h_ => ?_; go_simp; refine h_ _ _ ?_; clear h_ K_
  refine wpp fun K_ h_ => ?_; go_simp; refine h_ _ _ ?_; clear h_ K_
  refine wpp fun K_ h_ => ?_; go_simp; refine h_ _ _ ?_; clear h_ K_
  refine wpp fun K_ h_ => ?_; go_simp; refine h_ _ _ ?_; clear h_ K_
  refine wpp fun K_ h_ => ?_; go_simp; refine h_ _ _ ?_; clear h_ K_
  refine wpp fun K_ h_ => ?_; go_simp; refine h_ _ _ ?_; clear h_ K_
  refine wpList_nil ?_
  (try simp only [Exit.then, Exit.inBlock, ↓reduceIte, Nat.reduceEqDiff])
  refine hK24 _ _ ?_
  refine wp_region_lit ?_
  refine wpp fun K_ h_ => ?_; go_simp; refine h_ _ _ ?_; clear h_ K_
  refine wpp fun K_ h_ => ?_; go_simp; refine h_ _ _ ?_; clear h_ K_
  refine wpp fun K_ h_ => ?_; go_simp; refine h_ _ _ ?_; clear h_ K_
  refine wpList_nil ?_
  (try simp only [Exit.then, Exit.inBlock, ↓reduceIte, Nat.reduceEqDiff])
  refine hK20 _ _ ?_
  go_roundg k16
  case measure => exact Nat.lt_succ_self _
  case rel => exact ⟨Int.tmod (wrap64 (x9 * x10)) a1, Int.tmod (wrap64 (x10 * x10)) a1, wrap64 (Int.tdiv x11 2), (by first | rfl | simp), (by first | rfl | simp), (by first | rfl | simp), HL29, ⟨by have := hk17.out; omega⟩, ⟨hu13.out⟩, ⟨(Nat.le_trans (Nat.le_refl _) hz14.out)⟩⟩

set_option maxHeartbeats 40000000 in
set_option maxRecDepth 100000 in
theorem spec_l01Normal.calls (K : Nat) (a0 : Int) (a1 : Int) (a2 : Int) (a3 : Int) (r0 : Int) (r1 : Int) (r2 : Int) (w : World)  (h : spec_l01Normal.f K a0 a1 a2 a3 = some (r0, r1, r2)) :
    Calls Try.prog 189 #[.int .i64 a0, .int .i64 a1, .int .i64 a2, .int .i64 a3] w fun e w' => e = .returned (.agg #[.int .i64 r0, .int .i64 r1, .int .i64 r2]) ∧ Up w w' := by
 have H : (((spec_l01Mod.f K a1 a0).bind fun t6 => (if (t6 == 0) = true then ((spec_l01Mod.f K a2 a0).bind fun t13 => ((spec_l01Inverse.f K t13 a0).bind fun t18 => ((spec_l01Mod.f K (wrap64 (a1 * t18)) a0).bind fun t23 => ((spec_l01Mod.f K (wrap64 (a2 * t18)) a0).bind fun t27 => ((spec_l01Mod.f K (wrap64 (a3 * t18)) a0).bind fun t31 => some (t23, t27, t31)))))) else ((spec_l01Inverse.f K t6 a0).bind fun t39 => ((spec_l01Mod.f K (wrap64 (a1 * t39)) a0).bind fun t44 => ((spec_l01Mod.f K (wrap64 (a2 * t39)) a0).bind fun t48 => ((spec_l01Mod.f K (wrap64 (a3 * t39)) a0).bind fun t52 => some (t44, t48, t52))))))) : Option (Int × Int × Int)) = some (r0, r1, r2) := h
 clear h
 replace H := Option.bind_eq_some_iff.mp H
 obtain ⟨t6, A7, H⟩ := H
 replace A7 := Aside0.mk A7
 try dsimp only at H
 go_enter Try.func189, Try.ntmps189
 refine wp_hide (fun Qf hQf => ?_)
 refine wp_seq_k (fun K1 hK1 => ?_)
 refine wp_region_lit ?_
 refine step_new (cs := [.int .i64 0, .int .i64 0, .int .i64 0]) (T := 34) (f := fun b => .pointer (some ⟨b, 0, none⟩)) rfl (by go_simp <;> rfl) ?_
 intro b2 w3 hu lb hb2
 simp only [Act.put, nm1, nm2, nm3, i64_w]
 have lbb2 := Aside0.mk lb
 have ltb2 := Aside0.mk hb2.lt
 clear lb
 have hu4 := Aside0.mk hu
 clear hu
 refine wpList_nil ?_
 (try simp only [Exit.then, Exit.inBlock, ↓reduceIte, Nat.reduceEqDiff])
 refine hK1 _ _ ?_
 refine wp_seq_k (fun K5 hK5 => ?_)
 refine wp_region_lit ?_
 refine wpp fun K_ h_ => ?_; go_simp; refine h_ _ _ ?_; clear h_ K_
 refine wpp fun K_ h_ => ?_; go_simp; refine h_ _ _ ?_; clear h_ K_
 refine step_call (wanted_none rfl) (by go_simp <;> rfl) (spec_l01Mod.calls K a1 a0 t6 w3  A7.out) ?_
 rintro e w8 ⟨rfl, hu⟩
 have hu9 := Aside0.mk hu
 clear hu
 refine ⟨_, rfl, ?_⟩
 simp only [Act.put, nm1, nm2, nm3, i64_w]
 refine wpp fun K_ h_ => ?_; go_simp; refine h_ _ _ ?_; clear h_ K_
 refine wpList_nil ?_
 (try simp only [Exit.then, Exit.inBlock, ↓reduceIte, Nat.reduceEqDiff])
 refine hK5 _ _ ?_
 refine wp_seq_k (fun K10 hK10 => ?_)
 refine wp_seq_k (fun K11 hK11 => ?_)
 refine wp_region_lit ?_
 refine wpp fun K_ h_ => ?_; go_simp; refine h_ _ _ ?_; clear h_ K_
 refine wpp fun K_ h_ => ?_; go_simp; refine h_ _ _ ?_; clear h_ K_
 refine wpList_nil ?_
 (try simp only [Exit.then, Exit.inBlock, ↓reduceIte, Nat.reduceEqDiff])
 refine hK11 _ _ ?_
 by_cases c12 : (t6 == 0) = true
 rotate_left
 ·
  rw [if_neg c12] at H; replace c12 := Bool.eq_false_iff.mpr c12
  have c12n : (t6 != 0) = true := by rw [bne, c12]; rfl
  have c12p : ¬ t6 = 0 := fun e => by simp [e] at c12
  replace H := Option.bind_eq_some_iff.mp H
  obtain ⟨t39, A40, H⟩ := H
  replace A40 := Aside0.mk A40
  try dsimp only at H
  replace H := Option.bind_eq_some_iff.mp H
  obtain ⟨t44, A45, H⟩ := H
  replace A45 := Aside0.mk A45
  try dsimp only at H
  replace H := Option.bind_eq_some_iff.mp H
  obtain ⟨t48, A49, H⟩ := H
  replace A49 := Aside0.mk A49
  try dsimp only at H
  replace H := Option.bind_eq_some_iff.mp H
  obtain ⟨t52, A53, H⟩ := H
  replace A53 := Aside0.mk A53
  try dsimp only at H
  simp only [Option.some.injEq, Prod.mk.injEq] at H
  obtain ⟨rfl, rfl, rfl⟩ := H
  try simp only [c12, c12n, Bool.not_true, Bool.not_false]
  refine wp_cond_false rfl ?_
  refine wp_skip ?_
  (try simp only [Exit.then, Exit.inBlock, ↓reduceIte, Nat.reduceEqDiff])
  refine hK10 _ _ ?_
  refine wp_seq_k (fun K38 hK38 => ?_)
  refine wp_region_lit ?_
  refine wpp fun K_ h_ => ?_; go_simp; refine h_ _ _ ?_; clear h_ K_
  refine wpp fun K_ h_ => ?_; go_simp; refine h_ _ _ ?_; clear h_ K_
  refine step_call (wanted_none rfl) (by go_simp <;> rfl) (spec_l01Inverse.calls K t6 a0 t39 w8  A40.out) ?_
  rintro e w41 ⟨rfl, hu⟩
  have hu42 := Aside0.mk hu
  clear hu
  refine ⟨_, rfl, ?_⟩
  simp only [Act.put, nm1, nm2, nm3, i64_w]
  refine wpp fun K_ h_ => ?_; go_simp; refine h_ _ _ ?_; clear h_ K_
  refine wpList_nil ?_
  (try simp only [Exit.then, Exit.inBlock, ↓reduceIte, Nat.reduceEqDiff])
  refine hK38 _ _ ?_
  refine wp_seq_k (fun K43 hK43 => ?_)
  refine wp_region_lit ?_
  refine wpp fun K_ h_ => ?_; go_simp; refine h_ _ _ ?_; clear h_ K_
  refine wpp fun K_ h_ => ?_; go_simp; refine h_ _ _ ?_; clear h_ K_
  refine wpp fun K_ h_ => ?_; go_simp; refine h_ _ _ ?_; clear h_ K_
  refine wpp fun K_ h_ => ?_; go_simp; refine h_ _ _ ?_; clear h_ K_
  refine step_call (wanted_none rfl) (by go_simp <;> rfl) (spec_l01Mod.calls K (wrap64 (a1 * t39)) a0 t44 w41  A45.out) ?_
  rintro e w46 ⟨rfl, hu⟩
  have hu47 := Aside0.mk hu
  clear hu
  refine ⟨_, rfl, ?_⟩
  simp only [Act.put, nm1, nm2, nm3, i64_w]
  refine wpp fun K_ h_ => ?_; go_simp; refine h_ _ _ ?_; clear h_ K_
  refine wpp fun K_ h_ => ?_; go_simp; refine h_ _ _ ?_; clear h_ K_
  refine wpp fun K_ h_ => ?_; go_simp; refine h_ _ _ ?_; clear h_ K_
  refine wpp fun K_ h_ => ?_; go_simp; refine h_ _ _ ?_; clear h_ K_
  refine step_call (wanted_none rfl) (by go_simp <;> rfl) (spec_l01Mod.calls K (wrap64 (a2 * t39)) a0 t48 w46  A49.out) ?_
  rintro e w50 ⟨rfl, hu⟩
  have hu51 := Aside0.mk hu
  clear hu
  refine ⟨_, rfl, ?_⟩
  simp only [Act.put, nm1, nm2, nm3, i64_w]
  refine wpp fun K_ h_ => ?_; go_simp; refine h_ _ _ ?_; clear h_ K_
  refine wpp fun K_ h_ => ?_; go_simp; refine h_ _ _ ?_; clear h_ K_
  refine wpp fun K_ h_ => ?_; go_simp; refine h_ _ _ ?_; clear h_ K_
  refine wpp fun K_ h_ => ?_; go_simp; refine h_ _ _ ?_; clear h_ K_
  refine step_call (wanted_none rfl) (by go_simp <;> rfl) (spec_l01Mod.calls K (wrap64 (a3 * t39)) a0 t52 w50  A53.out) ?_
  rintro e w54 ⟨rfl, hu⟩
  have hu55 := Aside0.mk hu
  clear hu
  refine ⟨_, rfl, ?_⟩
  simp only [Act.put, nm1, nm2, nm3, i64_w]
  refine wpp fun K_ h_ => ?_; go_simp; refine h_ _ _ ?_; clear h_ K_
  have hB0 := (hb2.up ((((hu9.out.trans hu42.out).trans hu47.out).trans hu51.out).trans hu55.out))
  have cl0 := hB0.cell (o := 0) rfl
  have fr0 := hB0.free 0
  have cl1 := hB0.cell (o := 1) rfl
  have fr1 := hB0.free 1
  have cl2 := hB0.cell (o := 2) rfl
  have fr2 := hB0.free 2
  refine step_store (b := b2) (cs' := [.int .i64 t44, .int .i64 t48, .int .i64 t52]) (T := 34) (W' := (((w54.setCell ⟨b2, 0, none⟩ (.int .i64 t44)).setCell ⟨b2, 1, none⟩ (.int .i64 t48)).setCell ⟨b2, 2, none⟩ (.int .i64 t52))) rfl rfl (by go_simp <;> rfl) ((((Sto.refl _ _).setCell 0 _).setCell 1 _).setCell 2 _) ((((hB0).setCell 0 _).setCell 1 _).setCell 2 _) ?_
  clear hB0 cl0 fr0 cl1 fr1 cl2 fr2
  intro w56 hs hb58
  have hs57 := Aside0.mk hs
  clear hs
  refine wpList_nil ?_
  (try simp only [Exit.then, Exit.inBlock, ↓reduceIte, Nat.reduceEqDiff])
  refine hK43 _ _ ?_
  refine wp_ret ?_
  (try simp only [Exit.then, Exit.inBlock, ↓reduceIte, Nat.reduceEqDiff])
  refine hQf _ _ _ ?_
  have cr0 := hb58.cell (o := 0) rfl
  have cr1 := hb58.cell (o := 1) rfl
  have cr2 := hb58.cell (o := 2) rfl
  exact bodyPost_ret (v := .agg #[.int .i64 t44, .int .i64 t48, .int .i64 t52]) (by first | rfl | (simp [results, Try.results189, go_sem, cr0, cr1, cr2]; done) | (simp [results, Try.results189, go_sem, cr0, cr1, cr2]; rfl)) rfl ⟨rfl, ((((((hu4.out.trans hu9.out).trans hu42.out).trans hu47.out).trans hu51.out).trans hu55.out).sto (Nat.le_trans (Nat.le_refl _) lbb2.out) hs57.out)⟩
 rw [if_pos c12] at H
 have c12n : (t6 != 0) = false := by rw [bne, c12]; rfl
 replace H := Option.bind_eq_some_iff.mp H
 obtain ⟨t13, A14, H⟩ := H
 replace A14 := Aside0.mk A14
 try dsimp only at H
 replace H := Option.bind_eq_some_iff.mp H
 obtain ⟨t18, A19, H⟩ := H
 replace A19 := Aside0.mk A19
 try dsimp only at H
 replace H := Option.bind_eq_some_iff.mp H
 obtain ⟨t23, A24, H⟩ := H
 replace A24 := Aside0.mk A24
 try dsimp only at H
 replace H := Option.bind_eq_some_iff.mp H
 obtain ⟨t27, A28, H⟩ := H
 replace A28 := Aside0.mk A28
 try dsimp only at H
 replace H := Option.bind_eq_some_iff.mp H
 obtain ⟨t31, A32, H⟩ := H
 replace A32 := Aside0.mk A32
 try dsimp only at H
 simp only [Option.some.injEq, Prod.mk.injEq] at H
 obtain ⟨rfl, rfl, rfl⟩ := H
 try simp only [c12, c12n, Bool.not_true, Bool.not_false]
 refine wp_cond_true rfl ?_
 refine wp_region_lit ?_
 refine wpp fun K_ h_ => ?_; go_simp; refine h_ _ _ ?_; clear h_ K_
 refine wpp fun K_ h_ => ?_; go_simp; refine h_ _ _ ?_; clear h_ K_
 refine step_call (wanted_none rfl) (by go_simp <;> rfl) (spec_l01Mod.calls K a2 a0 t13 w8  A14.out) ?_
 rintro e w15 ⟨rfl, hu⟩
 have hu16 := Aside0.mk hu
 clear hu
 refine ⟨_, rfl, ?_⟩
 simp only [Act.put, nm1, nm2, nm3, i64_w]
 refine wpp fun K_ h_ => ?_; go_simp; refine h_ _ _ ?_; clear h_ K_
 refine wpList_nil ?_
 (try simp only [Exit.then, Exit.inBlock, ↓reduceIte, Nat.reduceEqDiff])
 refine hK10 _ _ ?_
 refine wp_seq_k (fun K17 hK17 => ?_)
 refine wp_region_lit ?_
 refine wpp fun K_ h_ => ?_; go_simp; refine h_ _ _ ?_; clear h_ K_
 refine wpp fun K_ h_ => ?_; go_simp; refine h_ _ _ ?_; clear h_ K_
 refine step_call (wanted_none rfl) (by go_simp <;> rfl) (spec_l01Inverse.calls K t13 a0 t18 w15  A19.out) ?_
 rintro e w20 ⟨rfl, hu⟩
 have hu21 := Aside0.mk hu
 clear hu
 refine ⟨_, rfl, ?_⟩
 simp only [Act.put, nm1, nm2, nm3, i64_w]
 refine wpp fun K_ h_ => ?_; go_simp; refine h_ _ _ ?_; clear h_ K_
 refine wpList_nil ?_
 (try simp only [Exit.then, Exit.inBlock, ↓reduceIte, Nat.reduceEqDiff])
 refine hK17 _ _ ?_
 refine wp_seq_k (fun K22 hK22 => ?_)
 refine wp_region_lit ?_
 refine wpp fun K_ h_ => ?_; go_simp; refine h_ _ _ ?_; clear h_ K_
 refine wpp fun K_ h_ => ?_; go_simp; refine h_ _ _ ?_; clear h_ K_
 refine wpp fun K_ h_ => ?_; go_simp; refine h_ _ _ ?_; clear h_ K_
 refine wpp fun K_ h_ => ?_; go_simp; refine h_ _ _ ?_; clear h_ K_
 refine step_call (wanted_none rfl) (by go_simp <;> rfl) (spec_l01Mod.calls K (wrap64 (a1 * t18)) a0 t23 w20  A24.out) ?_
 rintro e w25 ⟨rfl, hu⟩
 have hu26 := Aside0.mk hu
 clear hu
 refine ⟨_, rfl, ?_⟩
 simp only [Act.put, nm1, nm2, nm3, i64_w]
 refine wpp fun K_ h_ => ?_; go_simp; refine h_ _ _ ?_; clear h_ K_
 refine wpp fun K_ h_ => ?_; go_simp; refine h_ _ _ ?_; clear h_ K_
 refine wpp fun K_ h_ => ?_; go_simp; refine h_ _ _ ?_; clear h_ K_
 refine wpp fun K_ h_ => ?_; go_simp; refine h_ _ _ ?_; clear h_ K_
 refine step_call (wanted_none rfl) (by go_simp <;> rfl) (spec_l01Mod.calls K (wrap64 (a2 * t18)) a0 t27 w25  A28.out) ?_
 rintro e w29 ⟨rfl, hu⟩
 have hu30 := Aside0.mk hu
 clear hu
 refine ⟨_, rfl, ?_⟩
 simp only [Act.put, nm1, nm2, nm3, i64_w]
 refine wpp fun K_ h_ => ?_; go_simp; refine h_ _ _ ?_; clear h_ K_
 refine wpp fun K_ h_ => ?_; go_simp; refine h_ _ _ ?_; clear h_ K_
 refine wpp fun K_ h_ => ?_; go_simp; refine h_ _ _ ?_; clear h_ K_
 refine wpp fun K_ h_ => ?_; go_simp; refine h_ _ _ ?_; clear h_ K_
 refine step_call (wanted_none rfl) (by go_simp <;> rfl) (spec_l01Mod.calls K (wrap64 (a3 * t18)) a0 t31 w29  A32.out) ?_
 rintro e w33 ⟨rfl, hu⟩
 have hu34 := Aside0.mk hu
 clear hu
 refine ⟨_, rfl, ?_⟩
 simp only [Act.put, nm1, nm2, nm3, i64_w]
 refine wpp fun K_ h_ => ?_; go_simp; refine h_ _ _ ?_; clear h_ K_
 have hB0 := (hb2.up (((((hu9.out.trans hu16.out).trans hu21.out).trans hu26.out).trans hu30.out).trans hu34.out))
 have cl0 := hB0.cell (o := 0) rfl
 have fr0 := hB0.free 0
 have cl1 := hB0.cell (o := 1) rfl
 have fr1 := hB0.free 1
 have cl2 := hB0.cell (o := 2) rfl
 have fr2 := hB0.free 2
 refine step_store (b := b2) (cs' := [.int .i64 t23, .int .i64 t27, .int .i64 t31]) (T := 34) (W' := (((w33.setCell ⟨b2, 0, none⟩ (.int .i64 t23)).setCell ⟨b2, 1, none⟩ (.int .i64 t27)).setCell ⟨b2, 2, none⟩ (.int .i64 t31))) rfl rfl (by go_simp <;> rfl) ((((Sto.refl _ _).setCell 0 _).setCell 1 _).setCell 2 _) ((((hB0).setCell 0 _).setCell 1 _).setCell 2 _) ?_
 clear hB0 cl0 fr0 cl1 fr1 cl2 fr2
 intro w35 hs hb37
 have hs36 := Aside0.mk hs
 clear hs
 refine wpList_nil ?_
 (try simp only [Exit.then, Exit.inBlock, ↓reduceIte, Nat.reduceEqDiff])
 refine hK22 _ _ ?_
 refine wp_ret ?_
 (try simp only [Exit.then, Exit.inBlock, ↓reduceIte, Nat.reduceEqDiff])
 refine hQf _ _ _ ?_
 have cr0 := hb37.cell (o := 0) rfl
 have cr1 := hb37.cell (o := 1) rfl
 have cr2 := hb37.cell (o := 2) rfl
 exact bodyPost_ret (v := .agg #[.int .i64 t23, .int .i64 t27, .int .i64 t31]) (by first | rfl | (simp [results, Try.results189, go_sem, cr0, cr1, cr2]; done) | (simp [results, Try.results189, go_sem, cr0, cr1, cr2]; rfl)) rfl ⟨rfl, (((((((hu4.out.trans hu9.out).trans hu16.out).trans hu21.out).trans hu26.out).trans hu30.out).trans hu34.out).sto (Nat.le_trans (Nat.le_refl _) lbb2.out) hs36.out)⟩

set_option maxHeartbeats 40000000 in
set_option maxRecDepth 100000 in
theorem spec_l02Through.calls (K : Nat) (a0 : Int) (a1 : Int) (a2_0 : Int) (a2_1 : Int) (a3_0 : Int) (a3_1 : Int) (r0 : Int) (r1 : Int) (r2 : Int) (w : World)  (h : spec_l02Through.f K a0 a1 a2_0 a2_1 a3_0 a3_1 = some (r0, r1, r2)) :
    Calls Try.prog 184 #[.int .i64 a0, .int .i64 a1, .agg #[.int .i64 a2_0, .int .i64 a2_1], .agg #[.int .i64 a3_0, .int .i64 a3_1]] w fun e w' => e = .returned (.agg #[.int .i64 r0, .int .i64 r1, .int .i64 r2]) ∧ Up w w' := by
 have H : ((if (a1 == 1) = true then ((spec_l01Mod.f K (wrap64 (-a2_1)) a0).bind fun t19 => ((spec_l01Mod.f K (wrap64 (-(wrap64 ((wrap64 (a2_0 * a3_0)) + (wrap64 (t19 * a3_1)))))) a0).bind fun t24 => ((spec_l01Normal.f K a0 a2_0 t19 t24).bind fun (t28, t29, t30) => some (t28, t29, t30)))) else (if (a1 == 2) = true then ((spec_l01Mod.f K (wrap64 (-(wrap64 ((wrap64 (a2_1 * a3_0)) + (wrap64 (a2_0 * a3_1)))))) a0).bind fun t41 => ((spec_l01Normal.f K a0 a2_1 a2_0 t41).bind fun (t45, t46, t47) => some (t45, t46, t47))) else ((spec_l01Mod.f K (wrap64 (-(wrap64 ((wrap64 (a2_0 * a3_0)) + (wrap64 (a2_1 * a3_1)))))) a0).bind fun t55 => ((spec_l01Normal.f K a0 a2_0 a2_1 t55).bind fun (t59, t60, t61) => some (t59, t60, t61))))) : Option (Int × Int × Int)) = some (r0, r1, r2) := h
 clear h
 go_enter Try.func184, Try.ntmps184
 refine wp_hide (fun Qf hQf => ?_)
 refine wp_seq_k (fun K1 hK1 => ?_)
 refine wp_region_lit ?_
 refine step_new (cs := [.int .i64 a2_0, .int .i64 a2_1]) (T := 30) (f := fun b => .pointer (some ⟨b, 0, none⟩)) rfl (by go_simp <;> rfl) ?_
 intro b2 w3 hu lb hb2
 simp only [Act.put, nm1, nm2, nm3, i64_w]
 have lbb2 := Aside0.mk lb
 have ltb2 := Aside0.mk hb2.lt
 clear lb
 have hu4 := Aside0.mk hu
 clear hu
 refine step_new (cs := [.int .i64 a3_0, .int .i64 a3_1]) (T := 30) (f := fun b => .pointer (some ⟨b, 0, none⟩)) rfl (by go_simp <;> rfl) ?_
 intro b5 w6 hu lb hb5
 simp only [Act.put, nm1, nm2, nm3, i64_w]
 have lbb5 := Aside0.mk lb
 have ltb5 := Aside0.mk hb5.lt
 clear lb
 have hu7 := Aside0.mk hu
 clear hu
 refine step_new (cs := [.int .i64 0, .int .i64 0, .int .i64 0]) (T := 34) (f := fun b => .pointer (some ⟨b, 0, none⟩)) rfl (by go_simp <;> rfl) ?_
 intro b8 w9 hu lb hb8
 simp only [Act.put, nm1, nm2, nm3, i64_w]
 have lbb8 := Aside0.mk lb
 have ltb8 := Aside0.mk hb8.lt
 clear lb
 have hu10 := Aside0.mk hu
 clear hu
 refine wpList_nil ?_
 (try simp only [Exit.then, Exit.inBlock, ↓reduceIte, Nat.reduceEqDiff])
 refine hK1 _ _ ?_
 refine wp_seq_k (fun K11 hK11 => ?_)
 refine' wp_region_up 6 [Slot.det _, Slot.det _, Slot.det _, Slot.det _, Slot.det _, Slot.det _] (by kernel_rfl) (by kernel_rfl) ?main
 case main =>
  simp only [List.take_succ_cons, List.take_zero]
  refine wpK_ops rfl (fun w1 hu => ?_) ?_
  · clear hu
    go_simp
    first | done | rfl
  simp only [Act.put, nm1, nm2, nm3, i64_w]
  refine wpK_ops rfl (fun w1 hu => ?_) ?_
  · have cl0 := ((hb2.up (hu7.out.trans hu10.out)).up ((Up.refl _).drew.trans hu)).cell (o := 0) rfl
    go_simp
    first | done | rfl
  simp only [Act.put, nm1, nm2, nm3, i64_w]
  refine wpK_ops rfl (fun w1 hu => ?_) ?_
  · clear hu
    go_simp
    first | done | rfl
  simp only [Act.put, nm1, nm2, nm3, i64_w]
  refine wpK_ops rfl (fun w1 hu => ?_) ?_
  · have cl0 := ((hb2.up (hu7.out.trans hu10.out)).up ((Up.refl _).drew.trans hu)).cell (o := 1) rfl
    go_simp
    first | done | rfl
  simp only [Act.put, nm1, nm2, nm3, i64_w]
  refine wpK_ops rfl (fun w1 hu => ?_) ?_
  · clear hu
    go_simp
    first | done | rfl
  simp only [Act.put, nm1, nm2, nm3, i64_w]
  refine wpK_ops rfl (fun w1 hu => ?_) ?_
  · clear hu
    go_simp
    first | done | rfl
  simp only [Act.put, nm1, nm2, nm3, i64_w]
  refine wpK_nil ?_
  intro w12 hu hap
  simp only [List.drop_succ_cons, List.drop_zero]
  replace hu := (Up.refl _).drew.trans hu
  clear hap
  have hu13 := Aside0.mk hu
  clear hu
  refine wpList_nil ?_
  (try simp only [Exit.then, Exit.inBlock, ↓reduceIte, Nat.reduceEqDiff])
  refine hK11 _ _ ?_
  refine wp_seq_k (fun K14 hK14 => ?_)
  refine wp_seq_k (fun K15 hK15 => ?_)
  refine wp_region_lit ?_
  refine wpp fun K_ h_ => ?_; go_simp; refine h_ _ _ ?_; clear h_ K_
  refine wpList_nil ?_
  (try simp only [Exit.then, Exit.inBlock, ↓reduceIte, Nat.reduceEqDiff])
  refine hK15 _ _ ?_
  refine wp_block ?_
  refine wp_seq_k (fun K16 hK16 => ?_)
  refine wp_region_lit ?_
  refine wpp fun K_ h_ => ?_; go_simp; refine h_ _ _ ?_; clear h_ K_
  refine wpp fun K_ h_ => ?_; go_simp; refine h_ _ _ ?_; clear h_ K_
  refine wpList_nil ?_
  (try simp only [Exit.then, Exit.inBlock, ↓reduceIte, Nat.reduceEqDiff])
  refine hK16 _ _ ?_
  have hm18 := Aside0.mk (Nat.le_trans ((Nat.le_trans ((Nat.le_trans (hu4.out.size) hu7.out.size)) hu10.out.size)) hu13.out.size)
  by_cases c17 : (a1 == 1) = true
  ·
   rw [if_pos c17] at H
   have c17n : (a1 != 1) = false := by rw [bne, c17]; rfl
   replace H := Option.bind_eq_some_iff.mp H
   obtain ⟨t19, A20, H⟩ := H
   replace A20 := Aside0.mk A20
   try dsimp only at H
   replace H := Option.bind_eq_some_iff.mp H
   obtain ⟨t24, A25, H⟩ := H
   replace A25 := Aside0.mk A25
   try dsimp only at H
   replace H := Option.bind_eq_some_iff.mp H
   obtain ⟨⟨t28, t29, t30⟩, A31, H⟩ := H
   replace A31 := Aside0.mk A31
   try dsimp only at H
   simp only [Option.some.injEq, Prod.mk.injEq] at H
   obtain ⟨rfl, rfl, rfl⟩ := H
   try simp only [c17, c17n, Bool.not_true, Bool.not_false]
   refine wp_cond_true rfl ?_
   refine wp_region_lit ?_
   refine wpp fun K_ h_ => ?_; go_simp; refine h_ _ _ ?_; clear h_ K_
   refine wpp fun K_ h_ => ?_; go_simp; refine h_ _ _ ?_; clear h_ K_
   refine wpp fun K_ h_ => ?_; go_simp; refine h_ _ _ ?_; clear h_ K_
   refine step_call (wanted_none rfl) (by go_simp <;> rfl) (spec_l01Mod.calls K (wrap64 (-a2_1)) a0 t19 w12  A20.out) ?_
   rintro e w21 ⟨rfl, hu⟩
   have hu22 := Aside0.mk hu
   clear hu
   refine ⟨_, rfl, ?_⟩
   simp only [Act.put, nm1, nm2, nm3, i64_w]
   refine wpp fun K_ h_ => ?_; go_simp; refine h_ _ _ ?_; clear h_ K_
   refine wpList_nil ?_
   (try simp only [Exit.then, Exit.inBlock, ↓reduceIte, Nat.reduceEqDiff])
   refine hK14 _ _ ?_
   refine wp_seq_k (fun K23 hK23 => ?_)
   refine wp_region_lit ?_
   refine wpp fun K_ h_ => ?_; go_simp; refine h_ _ _ ?_; clear h_ K_
   refine wpp fun K_ h_ => ?_; go_simp; refine h_ _ _ ?_; clear h_ K_
   refine wpp fun K_ h_ => ?_; go_simp; refine h_ _ _ ?_; clear h_ K_
   refine wpp fun K_ h_ => ?_; go_simp; refine h_ _ _ ?_; clear h_ K_
   refine wpp fun K_ h_ => ?_; go_simp; refine h_ _ _ ?_; clear h_ K_
   have cl0 := (hb5.up ((hu10.out.trans hu13.out).trans hu22.out)).cell (o := 0) rfl
   refine wpp fun K_ h_ => ?_; go_simp; refine h_ _ _ ?_; clear h_ K_
   clear cl0
   refine wpp fun K_ h_ => ?_; go_simp; refine h_ _ _ ?_; clear h_ K_
   refine wpp fun K_ h_ => ?_; go_simp; refine h_ _ _ ?_; clear h_ K_
   refine wpp fun K_ h_ => ?_; go_simp; refine h_ _ _ ?_; clear h_ K_
   have cl0 := (hb5.up ((hu10.out.trans hu13.out).trans hu22.out)).cell (o := 1) rfl
   refine wpp fun K_ h_ => ?_; go_simp; refine h_ _ _ ?_; clear h_ K_
   clear cl0
   refine wpp fun K_ h_ => ?_; go_simp; refine h_ _ _ ?_; clear h_ K_
   refine wpp fun K_ h_ => ?_; go_simp; refine h_ _ _ ?_; clear h_ K_
   refine wpp fun K_ h_ => ?_; go_simp; refine h_ _ _ ?_; clear h_ K_
   refine wpp fun K_ h_ => ?_; go_simp; refine h_ _ _ ?_; clear h_ K_
   refine step_call (wanted_none rfl) (by go_simp <;> rfl) (spec_l01Mod.calls K (wrap64 (-(wrap64 ((wrap64 (a2_0 * a3_0)) + (wrap64 (t19 * a3_1)))))) a0 t24 w21  A25.out) ?_
   rintro e w26 ⟨rfl, hu⟩
   have hu27 := Aside0.mk hu
   clear hu
   refine ⟨_, rfl, ?_⟩
   simp only [Act.put, nm1, nm2, nm3, i64_w]
   refine step_call (wanted_none rfl) (by go_simp <;> rfl) (spec_l01Normal.calls K a0 a2_0 t19 t24 t28 t29 t30 w26  A31.out) ?_
   rintro e w32 ⟨rfl, hu⟩
   have hu33 := Aside0.mk hu
   clear hu
   refine ⟨_, rfl, ?_⟩
   simp only [Act.put, nm1, nm2, nm3, i64_w]
   have hB0 := (hb8.up (((hu13.out.trans hu22.out).trans hu27.out).trans hu33.out))
   have cl0 := hB0.cell (o := 0) rfl
   have fr0 := hB0.free 0
   have cl1 := hB0.cell (o := 1) rfl
   have fr1 := hB0.free 1
   have cl2 := hB0.cell (o := 2) rfl
   have fr2 := hB0.free 2
   refine step_store (b := b8) (cs' := [.int .i64 t28, .int .i64 t29, .int .i64 t30]) (T := 34) (W' := (((w32.setCell ⟨b8, 0, none⟩ (.int .i64 t28)).setCell ⟨b8, 1, none⟩ (.int .i64 t29)).setCell ⟨b8, 2, none⟩ (.int .i64 t30))) rfl rfl (by go_simp <;> rfl) ((((Sto.refl _ _).setCell 0 _).setCell 1 _).setCell 2 _) ((((hB0).setCell 0 _).setCell 1 _).setCell 2 _) ?_
   clear hB0 cl0 fr0 cl1 fr1 cl2 fr2
   intro w34 hs hb36
   have hs35 := Aside0.mk hs
   clear hs
   refine wpList_nil ?_
   (try simp only [Exit.then, Exit.inBlock, ↓reduceIte, Nat.reduceEqDiff])
   refine hK23 _ _ ?_
   refine wp_ret ?_
   (try simp only [Exit.then, Exit.inBlock, ↓reduceIte, Nat.reduceEqDiff])
   refine hQf _ _ _ ?_
   have cr0 := hb36.cell (o := 0) rfl
   have cr1 := hb36.cell (o := 1) rfl
   have cr2 := hb36.cell (o := 2) rfl
   exact bodyPost_ret (v := .agg #[.int .i64 t28, .int .i64 t29, .int .i64 t30]) (by first | rfl | (simp [results, Try.results184, go_sem, cr0, cr1, cr2]; done) | (simp [results, Try.results184, go_sem, cr0, cr1, cr2]; rfl)) rfl ⟨rfl, (((((((hu4.out.trans hu7.out).trans hu10.out).trans hu13.out).trans hu22.out).trans hu27.out).trans hu33.out).sto (Nat.le_trans ((Nat.le_trans (hu4.out.size) hu7.out.size)) lbb8.out) hs35.out)⟩
  rw [if_neg c17] at H; replace c17 := Bool.eq_false_iff.mpr c17
  have c17n : (a1 != 1) = true := by rw [bne, c17]; rfl
  have c17p : ¬ a1 = 1 := fun e => by simp [e] at c17
  try simp only [c17, c17n, Bool.not_true, Bool.not_false]
  refine wp_cond_false rfl ?_
  refine wp_seq_k (fun K37 hK37 => ?_)
  refine wp_region_lit ?_
  refine wpp fun K_ h_ => ?_; go_simp; refine h_ _ _ ?_; clear h_ K_
  refine wpp fun K_ h_ => ?_; go_simp; refine h_ _ _ ?_; clear h_ K_
  refine wpList_nil ?_
  (try simp only [Exit.then, Exit.inBlock, ↓reduceIte, Nat.reduceEqDiff])
  refine hK37 _ _ ?_
  by_cases c38 : (a1 == 2) = true
  rotate_left
  ·
   rw [if_neg c38] at H; replace c38 := Bool.eq_false_iff.mpr c38
   have c38n : (a1 != 2) = true := by rw [bne, c38]; rfl
   have c38p : ¬ a1 = 2 := fun e => by simp [e] at c38
   replace H := Option.bind_eq_some_iff.mp H
   obtain ⟨t55, A56, H⟩ := H
   replace A56 := Aside0.mk A56
   try dsimp only at H
   replace H := Option.bind_eq_some_iff.mp H
   obtain ⟨⟨t59, t60, t61⟩, A62, H⟩ := H
   replace A62 := Aside0.mk A62
   try dsimp only at H
   simp only [Option.some.injEq, Prod.mk.injEq] at H
   obtain ⟨rfl, rfl, rfl⟩ := H
   try simp only [c38, c38n, Bool.not_true, Bool.not_false]
   refine wp_cond_false rfl ?_
   refine wp_skip ?_
   (try simp only [Exit.then, Exit.inBlock, ↓reduceIte, Nat.reduceEqDiff])
   refine hK14 _ _ ?_
   refine wp_seq_k (fun K54 hK54 => ?_)
   refine wp_region_lit ?_
   refine wpp fun K_ h_ => ?_; go_simp; refine h_ _ _ ?_; clear h_ K_
   refine wpp fun K_ h_ => ?_; go_simp; refine h_ _ _ ?_; clear h_ K_
   refine wpp fun K_ h_ => ?_; go_simp; refine h_ _ _ ?_; clear h_ K_
   refine wpp fun K_ h_ => ?_; go_simp; refine h_ _ _ ?_; clear h_ K_
   refine wpp fun K_ h_ => ?_; go_simp; refine h_ _ _ ?_; clear h_ K_
   have cl0 := (hb5.up (hu10.out.trans hu13.out)).cell (o := 0) rfl
   refine wpp fun K_ h_ => ?_; go_simp; refine h_ _ _ ?_; clear h_ K_
   clear cl0
   refine wpp fun K_ h_ => ?_; go_simp; refine h_ _ _ ?_; clear h_ K_
   refine wpp fun K_ h_ => ?_; go_simp; refine h_ _ _ ?_; clear h_ K_
   refine wpp fun K_ h_ => ?_; go_simp; refine h_ _ _ ?_; clear h_ K_
   have cl0 := (hb5.up (hu10.out.trans hu13.out)).cell (o := 1) rfl
   refine wpp fun K_ h_ => ?_; go_simp; refine h_ _ _ ?_; clear h_ K_
   clear cl0
   refine wpp fun K_ h_ => ?_; go_simp; refine h_ _ _ ?_; clear h_ K_
   refine wpp fun K_ h_ => ?_; go_simp; refine h_ _ _ ?_; clear h_ K_
   refine wpp fun K_ h_ => ?_; go_simp; refine h_ _ _ ?_; clear h_ K_
   refine wpp fun K_ h_ => ?_; go_simp; refine h_ _ _ ?_; clear h_ K_
   refine step_call (wanted_none rfl) (by go_simp <;> rfl) (spec_l01Mod.calls K (wrap64 (-(wrap64 ((wrap64 (a2_0 * a3_0)) + (wrap64 (a2_1 * a3_1)))))) a0 t55 w12  A56.out) ?_
   rintro e w57 ⟨rfl, hu⟩
   have hu58 := Aside0.mk hu
   clear hu
   refine ⟨_, rfl, ?_⟩
   simp only [Act.put, nm1, nm2, nm3, i64_w]
   refine step_call (wanted_none rfl) (by go_simp <;> rfl) (spec_l01Normal.calls K a0 a2_0 a2_1 t55 t59 t60 t61 w57  A62.out) ?_
   rintro e w63 ⟨rfl, hu⟩
   have hu64 := Aside0.mk hu
   clear hu
   refine ⟨_, rfl, ?_⟩
   simp only [Act.put, nm1, nm2, nm3, i64_w]
   have hB0 := (hb8.up ((hu13.out.trans hu58.out).trans hu64.out))
   have cl0 := hB0.cell (o := 0) rfl
   have fr0 := hB0.free 0
   have cl1 := hB0.cell (o := 1) rfl
   have fr1 := hB0.free 1
   have cl2 := hB0.cell (o := 2) rfl
   have fr2 := hB0.free 2
   refine step_store (b := b8) (cs' := [.int .i64 t59, .int .i64 t60, .int .i64 t61]) (T := 34) (W' := (((w63.setCell ⟨b8, 0, none⟩ (.int .i64 t59)).setCell ⟨b8, 1, none⟩ (.int .i64 t60)).setCell ⟨b8, 2, none⟩ (.int .i64 t61))) rfl rfl (by go_simp <;> rfl) ((((Sto.refl _ _).setCell 0 _).setCell 1 _).setCell 2 _) ((((hB0).setCell 0 _).setCell 1 _).setCell 2 _) ?_
   clear hB0 cl0 fr0 cl1 fr1 cl2 fr2
   intro w65 hs hb67
   have hs66 := Aside0.mk hs
   clear hs
   refine wpList_nil ?_
   (try simp only [Exit.then, Exit.inBlock, ↓reduceIte, Nat.reduceEqDiff])
   refine hK54 _ _ ?_
   refine wp_ret ?_
   (try simp only [Exit.then, Exit.inBlock, ↓reduceIte, Nat.reduceEqDiff])
   refine hQf _ _ _ ?_
   have cr0 := hb67.cell (o := 0) rfl
   have cr1 := hb67.cell (o := 1) rfl
   have cr2 := hb67.cell (o := 2) rfl
   exact bodyPost_ret (v := .agg #[.int .i64 t59, .int .i64 t60, .int .i64 t61]) (by first | rfl | (simp [results, Try.results184, go_sem, cr0, cr1, cr2]; done) | (simp [results, Try.results184, go_sem, cr0, cr1, cr2]; rfl)) rfl ⟨rfl, ((((((hu4.out.trans hu7.out).trans hu10.out).trans hu13.out).trans hu58.out).trans hu64.out).sto (Nat.le_trans ((Nat.le_trans (hu4.out.size) hu7.out.size)) lbb8.out) hs66.out)⟩
  rw [if_pos c38] at H
  have c38n : (a1 != 2) = false := by rw [bne, c38]; rfl
  replace H := Option.bind_eq_some_iff.mp H
  obtain ⟨t41, A42, H⟩ := H
  replace A42 := Aside0.mk A42
  try dsimp only at H
  replace H := Option.bind_eq_some_iff.mp H
  obtain ⟨⟨t45, t46, t47⟩, A48, H⟩ := H
  replace A48 := Aside0.mk A48
  try dsimp only at H
  simp only [Option.some.injEq, Prod.mk.injEq] at H
  obtain ⟨rfl, rfl, rfl⟩ := H
  try simp only [c38, c38n, Bool.not_true, Bool.not_false]
  refine wp_cond_true rfl ?_
  refine wp_seq_k (fun K39 hK39 => ?_)
  refine wp_region_lit ?_
  refine wpp fun K_ h_ => ?_; go_simp; refine h_ _ _ ?_; clear h_ K_
  have cl0 := (hb2.up ((hu7.out.trans hu10.out).trans hu13.out)).cell (o := 1) rfl
  refine wpp fun K_ h_ => ?_; go_simp; refine h_ _ _ ?_; clear h_ K_
  clear cl0
  refine wpp fun K_ h_ => ?_; go_simp; refine h_ _ _ ?_; clear h_ K_
  refine wpList_nil ?_
  (try simp only [Exit.then, Exit.inBlock, ↓reduceIte, Nat.reduceEqDiff])
  refine hK39 _ _ ?_
  refine wp_region_lit ?_
  refine wpp fun K_ h_ => ?_; go_simp; refine h_ _ _ ?_; clear h_ K_
  have cl0 := (hb2.up ((hu7.out.trans hu10.out).trans hu13.out)).cell (o := 0) rfl
  refine wpp fun K_ h_ => ?_; go_simp; refine h_ _ _ ?_; clear h_ K_
  clear cl0
  refine wpp fun K_ h_ => ?_; go_simp; refine h_ _ _ ?_; clear h_ K_
  refine wpList_nil ?_
  (try simp only [Exit.then, Exit.inBlock, ↓reduceIte, Nat.reduceEqDiff])
  refine hK14 _ _ ?_
  refine wp_seq_k (fun K40 hK40 => ?_)
  refine wp_region_lit ?_
  refine wpp fun K_ h_ => ?_; go_simp; refine h_ _ _ ?_; clear h_ K_
  refine wpp fun K_ h_ => ?_; go_simp; refine h_ _ _ ?_; clear h_ K_
  refine wpp fun K_ h_ => ?_; go_simp; refine h_ _ _ ?_; clear h_ K_
  refine wpp fun K_ h_ => ?_; go_simp; refine h_ _ _ ?_; clear h_ K_
  refine wpp fun K_ h_ => ?_; go_simp; refine h_ _ _ ?_; clear h_ K_
  have cl0 := (hb5.up (hu10.out.trans hu13.out)).cell (o := 0) rfl
  refine wpp fun K_ h_ => ?_; go_simp; refine h_ _ _ ?_; clear h_ K_
  clear cl0
  refine wpp fun K_ h_ => ?_; go_simp; refine h_ _ _ ?_; clear h_ K_
  refine wpp fun K_ h_ => ?_; go_simp; refine h_ _ _ ?_; clear h_ K_
  refine wpp fun K_ h_ => ?_; go_simp; refine h_ _ _ ?_; clear h_ K_
  have cl0 := (hb5.up (hu10.out.trans hu13.out)).cell (o := 1) rfl
  refine wpp fun K_ h_ => ?_; go_simp; refine h_ _ _ ?_; clear h_ K_
  clear cl0
  refine wpp fun K_ h_ => ?_; go_simp; refine h_ _ _ ?_; clear h_ K_
  refine wpp fun K_ h_ => ?_; go_simp; refine h_ _ _ ?_; clear h_ K_
  refine wpp fun K_ h_ => ?_; go_simp; refine h_ _ _ ?_; clear h_ K_
  refine wpp fun K_ h_ => ?_; go_simp; refine h_ _ _ ?_; clear h_ K_
  refine step_call (wanted_none rfl) (by go_simp <;> rfl) (spec_l01Mod.calls K (wrap64 (-(wrap64 ((wrap64 (a2_1 * a3_0)) + (wrap64 (a2_0 * a3_1)))))) a0 t41 w12  A42.out) ?_
  rintro e w43 ⟨rfl, hu⟩
  have hu44 := Aside0.mk hu
  clear hu
  refine ⟨_, rfl, ?_⟩
  simp only [Act.put, nm1, nm2, nm3, i64_w]
  refine step_call (wanted_none rfl) (by go_simp <;> rfl) (spec_l01Normal.calls K a0 a2_1 a2_0 t41 t45 t46 t47 w43  A48.out) ?_
  rintro e w49 ⟨rfl, hu⟩
  have hu50 := Aside0.mk hu
  clear hu
  refine ⟨_, rfl, ?_⟩
  simp only [Act.put, nm1, nm2, nm3, i64_w]
  have hB0 := (hb8.up ((hu13.out.trans hu44.out).trans hu50.out))
  have cl0 := hB0.cell (o := 0) rfl
  have fr0 := hB0.free 0
  have cl1 := hB0.cell (o := 1) rfl
  have fr1 := hB0.free 1
  have cl2 := hB0.cell (o := 2) rfl
  have fr2 := hB0.free 2
  refine step_store (b := b8) (cs' := [.int .i64 t45, .int .i64 t46, .int .i64 t47]) (T := 34) (W' := (((w49.setCell ⟨b8, 0, none⟩ (.int .i64 t45)).setCell ⟨b8, 1, none⟩ (.int .i64 t46)).setCell ⟨b8, 2, none⟩ (.int .i64 t47))) rfl rfl (by go_simp <;> rfl) ((((Sto.refl _ _).setCell 0 _).setCell 1 _).setCell 2 _) ((((hB0).setCell 0 _).setCell 1 _).setCell 2 _) ?_
  clear hB0 cl0 fr0 cl1 fr1 cl2 fr2
  intro w51 hs hb53
  have hs52 := Aside0.mk hs
  clear hs
  refine wpList_nil ?_
  (try simp only [Exit.then, Exit.inBlock, ↓reduceIte, Nat.reduceEqDiff])
  refine hK40 _ _ ?_
  refine wp_ret ?_
  (try simp only [Exit.then, Exit.inBlock, ↓reduceIte, Nat.reduceEqDiff])
  refine hQf _ _ _ ?_
  have cr0 := hb53.cell (o := 0) rfl
  have cr1 := hb53.cell (o := 1) rfl
  have cr2 := hb53.cell (o := 2) rfl
  exact bodyPost_ret (v := .agg #[.int .i64 t45, .int .i64 t46, .int .i64 t47]) (by first | rfl | (simp [results, Try.results184, go_sem, cr0, cr1, cr2]; done) | (simp [results, Try.results184, go_sem, cr0, cr1, cr2]; rfl)) rfl ⟨rfl, ((((((hu4.out.trans hu7.out).trans hu10.out).trans hu13.out).trans hu44.out).trans hu50.out).sto (Nat.le_trans ((Nat.le_trans (hu4.out.size) hu7.out.size)) lbb8.out) hs52.out)⟩

set_option maxHeartbeats 40000000 in
set_option maxRecDepth 100000 in
theorem spec_l04Altitude.calls (K : Nat) (a0 : Int) (a1 : Int) (a2_0 : Int) (a2_1 : Int) (a3_0 : Int) (a3_1 : Int) (a4_0 : Int) (a4_1 : Int) (r0 : Int) (r1 : Int) (r2 : Int) (w : World)  (h : spec_l04Altitude.f K a0 a1 a2_0 a2_1 a3_0 a3_1 a4_0 a4_1 = some (r0, r1, r2)) :
    Calls Try.prog 125 #[.int .i64 a0, .int .i64 a1, .agg #[.int .i64 a2_0, .int .i64 a2_1], .agg #[.int .i64 a3_0, .int .i64 a3_1], .agg #[.int .i64 a4_0, .int .i64 a4_1]] w fun e w' => e = .returned (.agg #[.int .i64 r0, .int .i64 r1, .int .i64 r2]) ∧ Up w w' := by
 have H : (((spec_l01Minus.f K a0 a3_0 a3_1 a4_0 a4_1).bind fun (t15, t16) => ((spec_l02Through.f K a0 a1 t15 t16 a2_0 a2_1).bind fun (t18, t19, t20) => some (t18, t19, t20))) : Option (Int × Int × Int)) = some (r0, r1, r2) := h
 clear h
 replace H := Option.bind_eq_some_iff.mp H
 obtain ⟨⟨t15, t16⟩, A17, H⟩ := H
 replace A17 := Aside0.mk A17
 try dsimp only at H
 replace H := Option.bind_eq_some_iff.mp H
 obtain ⟨⟨t18, t19, t20⟩, A21, H⟩ := H
 replace A21 := Aside0.mk A21
 try dsimp only at H
 simp only [Option.some.injEq, Prod.mk.injEq] at H
 obtain ⟨rfl, rfl, rfl⟩ := H
 go_enter Try.func125, Try.ntmps125
 refine wp_hide (fun Qf hQf => ?_)
 refine wp_seq_k (fun K1 hK1 => ?_)
 refine wp_region_lit ?_
 refine step_new (cs := [.int .i64 a2_0, .int .i64 a2_1]) (T := 30) (f := fun b => .pointer (some ⟨b, 0, none⟩)) rfl (by go_simp <;> rfl) ?_
 intro b2 w3 hu lb hb2
 simp only [Act.put, nm1, nm2, nm3, i64_w]
 have lbb2 := Aside0.mk lb
 have ltb2 := Aside0.mk hb2.lt
 clear lb
 have hu4 := Aside0.mk hu
 clear hu
 refine step_new (cs := [.int .i64 a3_0, .int .i64 a3_1]) (T := 30) (f := fun b => .pointer (some ⟨b, 0, none⟩)) rfl (by go_simp <;> rfl) ?_
 intro b5 w6 hu lb hb5
 simp only [Act.put, nm1, nm2, nm3, i64_w]
 have lbb5 := Aside0.mk lb
 have ltb5 := Aside0.mk hb5.lt
 clear lb
 have hu7 := Aside0.mk hu
 clear hu
 refine step_new (cs := [.int .i64 a4_0, .int .i64 a4_1]) (T := 30) (f := fun b => .pointer (some ⟨b, 0, none⟩)) rfl (by go_simp <;> rfl) ?_
 intro b8 w9 hu lb hb8
 simp only [Act.put, nm1, nm2, nm3, i64_w]
 have lbb8 := Aside0.mk lb
 have ltb8 := Aside0.mk hb8.lt
 clear lb
 have hu10 := Aside0.mk hu
 clear hu
 refine step_new (cs := [.int .i64 0, .int .i64 0, .int .i64 0]) (T := 34) (f := fun b => .pointer (some ⟨b, 0, none⟩)) rfl (by go_simp <;> rfl) ?_
 intro b11 w12 hu lb hb11
 simp only [Act.put, nm1, nm2, nm3, i64_w]
 have lbb11 := Aside0.mk lb
 have ltb11 := Aside0.mk hb11.lt
 clear lb
 have hu13 := Aside0.mk hu
 clear hu
 refine wpList_nil ?_
 (try simp only [Exit.then, Exit.inBlock, ↓reduceIte, Nat.reduceEqDiff])
 refine hK1 _ _ ?_
 refine wp_seq_k (fun K14 hK14 => ?_)
 refine' wp_region_up 8 [Slot.det _, Slot.det _, Slot.det _, Slot.det _, Slot.det _, Slot.det (.agg #[.int .i64 t15, .int .i64 t16]), Slot.det _, Slot.det (.agg #[.int .i64 t18, .int .i64 t19, .int .i64 t20])] (by kernel_rfl) (by kernel_rfl) ?main
 case main =>
  simp only [List.take_succ_cons, List.take_zero]
  refine wpK_ops rfl (fun w1 hu => ?_) ?_
  · clear hu
    go_simp
    first | done | rfl
  simp only [Act.put, nm1, nm2, nm3, i64_w]
  refine wpK_ops rfl (fun w1 hu => ?_) ?_
  · clear hu
    go_simp
    first | done | rfl
  simp only [Act.put, nm1, nm2, nm3, i64_w]
  refine wpK_ops rfl (fun w1 hu => ?_) ?_
  · clear hu
    go_simp
    first | done | rfl
  simp only [Act.put, nm1, nm2, nm3, i64_w]
  refine wpK_ops rfl (fun w1 hu => ?_) ?_
  · have cl0 := ((hb5.up (hu10.out.trans hu13.out)).up ((Up.refl _).drew.trans hu)).cell (o := 0) rfl
    have cl1 := ((hb5.up (hu10.out.trans hu13.out)).up ((Up.refl _).drew.trans hu)).cell (o := 1) rfl
    go_simp
    first | done | rfl
  simp only [Act.put, nm1, nm2, nm3, i64_w]
  refine wpK_ops rfl (fun w1 hu => ?_) ?_
  · have cl0 := ((hb8.up hu13.out).up ((Up.refl _).drew.trans hu)).cell (o := 0) rfl
    have cl1 := ((hb8.up hu13.out).up ((Up.refl _).drew.trans hu)).cell (o := 1) rfl
    go_simp
    first | done | rfl
  simp only [Act.put, nm1, nm2, nm3, i64_w]
  refine wpK_ops rfl (fun w1 hu => ?_) ?_
  · have hcl := (spec_l01Minus.calls K a0 a3_0 a3_1 a4_0 a4_1 t15 t16 w1  A17.out)
    clear hu
    replace hcl := Aside0.mk hcl
    go_simp
    exact hcl.out
  simp only [Act.put, nm1, nm2, nm3, i64_w]
  refine wpK_ops rfl (fun w1 hu => ?_) ?_
  · have cl0 := ((hb2.up ((hu7.out.trans hu10.out).trans hu13.out)).up ((Up.refl _).drew.trans hu)).cell (o := 0) rfl
    have cl1 := ((hb2.up ((hu7.out.trans hu10.out).trans hu13.out)).up ((Up.refl _).drew.trans hu)).cell (o := 1) rfl
    go_simp
    first | done | rfl
  simp only [Act.put, nm1, nm2, nm3, i64_w]
  refine wpK_ops rfl (fun w1 hu => ?_) ?_
  · have hcl := (spec_l02Through.calls K a0 a1 t15 t16 a2_0 a2_1 t18 t19 t20 w1  A21.out)
    clear hu
    replace hcl := Aside0.mk hcl
    go_simp
    exact hcl.out
  simp only [Act.put, nm1, nm2, nm3, i64_w]
  refine wpK_nil ?_
  intro w22 hu hap
  simp only [List.drop_succ_cons, List.drop_zero]
  replace hu := (Up.refl _).drew.trans hu
  clear hap
  have hu23 := Aside0.mk hu
  clear hu
  have hB0 := (hb11.up hu23.out)
  have cl0 := hB0.cell (o := 0) rfl
  have fr0 := hB0.free 0
  have cl1 := hB0.cell (o := 1) rfl
  have fr1 := hB0.free 1
  have cl2 := hB0.cell (o := 2) rfl
  have fr2 := hB0.free 2
  refine step_store (b := b11) (cs' := [.int .i64 t18, .int .i64 t19, .int .i64 t20]) (T := 34) (W' := (((w22.setCell ⟨b11, 0, none⟩ (.int .i64 t18)).setCell ⟨b11, 1, none⟩ (.int .i64 t19)).setCell ⟨b11, 2, none⟩ (.int .i64 t20))) rfl rfl (by go_simp <;> rfl) ((((Sto.refl _ _).setCell 0 _).setCell 1 _).setCell 2 _) ((((hB0).setCell 0 _).setCell 1 _).setCell 2 _) ?_
  clear hB0 cl0 fr0 cl1 fr1 cl2 fr2
  intro w24 hs hb26
  have hs25 := Aside0.mk hs
  clear hs
  refine wpList_nil ?_
  (try simp only [Exit.then, Exit.inBlock, ↓reduceIte, Nat.reduceEqDiff])
  refine hK14 _ _ ?_
  refine wp_ret ?_
  (try simp only [Exit.then, Exit.inBlock, ↓reduceIte, Nat.reduceEqDiff])
  refine hQf _ _ _ ?_
  have cr0 := hb26.cell (o := 0) rfl
  have cr1 := hb26.cell (o := 1) rfl
  have cr2 := hb26.cell (o := 2) rfl
  exact bodyPost_ret (v := .agg #[.int .i64 t18, .int .i64 t19, .int .i64 t20]) (by first | rfl | (simp [results, Try.results125, go_sem, cr0, cr1, cr2]; done) | (simp [results, Try.results125, go_sem, cr0, cr1, cr2]; rfl)) rfl ⟨rfl, (((((hu4.out.trans hu7.out).trans hu10.out).trans hu13.out).trans hu23.out).sto (Nat.le_trans ((Nat.le_trans ((Nat.le_trans (hu4.out.size) hu7.out.size)) hu10.out.size)) lbb11.out) hs25.out)⟩

set_option maxHeartbeats 40000000 in
set_option maxRecDepth 100000 in
theorem spec_l01Meet.calls (K : Nat) (a0 : Int) (a1_0 : Int) (a1_1 : Int) (a1_2 : Int) (a2_0 : Int) (a2_1 : Int) (a2_2 : Int) (r0 : Int) (r1 : Int) (r2 : Bool) (w : World)  (h : spec_l01Meet.f K a0 a1_0 a1_1 a1_2 a2_0 a2_1 a2_2 = some (r0, r1, r2)) :
    Calls Try.prog 157 #[.int .i64 a0, .agg #[.int .i64 a1_0, .int .i64 a1_1, .int .i64 a1_2], .agg #[.int .i64 a2_0, .int .i64 a2_1, .int .i64 a2_2]] w fun e w' => e = .returned (.tuple #[.agg #[.int .i64 r0, .int .i64 r1], .bool r2]) ∧ Up w w' := by
 have H : (((spec_l01Mod.f K (wrap64 ((wrap64 (a1_0 * a2_1)) - (wrap64 (a1_1 * a2_0)))) a0).bind fun t12 => (if (t12 == 0) = true then some (0, 0, false) else ((spec_l01Inverse.f K t12 a0).bind fun t25 => (if (a0 == 0) = true then none else ((spec_l01Mod.f K (wrap64 ((Int.tmod (wrap64 ((wrap64 (a1_1 * a2_2)) - (wrap64 (a2_1 * a1_2)))) a0) * t25)) a0).bind fun t32 => ((spec_l01Mod.f K (wrap64 ((Int.tmod (wrap64 ((wrap64 (a2_0 * a1_2)) - (wrap64 (a1_0 * a2_2)))) a0) * t25)) a0).bind fun t34 => some (t32, t34, true))))))) : Option (Int × Int × Bool)) = some (r0, r1, r2) := h
 clear h
 replace H := Option.bind_eq_some_iff.mp H
 obtain ⟨t12, A13, H⟩ := H
 replace A13 := Aside0.mk A13
 try dsimp only at H
 go_enter Try.func157, Try.ntmps157
 refine wp_hide (fun Qf hQf => ?_)
 refine wp_seq_k (fun K1 hK1 => ?_)
 refine wp_region_lit ?_
 refine step_new (cs := [.int .i64 a1_0, .int .i64 a1_1, .int .i64 a1_2]) (T := 34) (f := fun b => .pointer (some ⟨b, 0, none⟩)) rfl (by go_simp <;> rfl) ?_
 intro b2 w3 hu lb hb2
 simp only [Act.put, nm1, nm2, nm3, i64_w]
 have lbb2 := Aside0.mk lb
 have ltb2 := Aside0.mk hb2.lt
 clear lb
 have hu4 := Aside0.mk hu
 clear hu
 refine step_new (cs := [.int .i64 a2_0, .int .i64 a2_1, .int .i64 a2_2]) (T := 34) (f := fun b => .pointer (some ⟨b, 0, none⟩)) rfl (by go_simp <;> rfl) ?_
 intro b5 w6 hu lb hb5
 simp only [Act.put, nm1, nm2, nm3, i64_w]
 have lbb5 := Aside0.mk lb
 have ltb5 := Aside0.mk hb5.lt
 clear lb
 have hu7 := Aside0.mk hu
 clear hu
 refine step_new (cs := [.int .i64 0, .int .i64 0]) (T := 30) (f := fun b => .pointer (some ⟨b, 0, none⟩)) rfl (by go_simp <;> rfl) ?_
 intro b8 w9 hu lb hb8
 simp only [Act.put, nm1, nm2, nm3, i64_w]
 have lbb8 := Aside0.mk lb
 have ltb8 := Aside0.mk hb8.lt
 clear lb
 have hu10 := Aside0.mk hu
 clear hu
 refine wpp fun K_ h_ => ?_; go_simp; refine h_ _ _ ?_; clear h_ K_
 refine wpList_nil ?_
 (try simp only [Exit.then, Exit.inBlock, ↓reduceIte, Nat.reduceEqDiff])
 refine hK1 _ _ ?_
 refine wp_seq_k (fun K11 hK11 => ?_)
 refine wp_region_lit ?_
 refine wpp fun K_ h_ => ?_; go_simp; refine h_ _ _ ?_; clear h_ K_
 have cl0 := (hb2.up (hu7.out.trans hu10.out)).cell (o := 0) rfl
 refine wpp fun K_ h_ => ?_; go_simp; refine h_ _ _ ?_; clear h_ K_
 clear cl0
 refine wpp fun K_ h_ => ?_; go_simp; refine h_ _ _ ?_; clear h_ K_
 have cl0 := (hb5.up hu10.out).cell (o := 1) rfl
 refine wpp fun K_ h_ => ?_; go_simp; refine h_ _ _ ?_; clear h_ K_
 clear cl0
 refine wpp fun K_ h_ => ?_; go_simp; refine h_ _ _ ?_; clear h_ K_
 refine wpp fun K_ h_ => ?_; go_simp; refine h_ _ _ ?_; clear h_ K_
 have cl0 := (hb2.up (hu7.out.trans hu10.out)).cell (o := 1) rfl
 refine wpp fun K_ h_ => ?_; go_simp; refine h_ _ _ ?_; clear h_ K_
 clear cl0
 refine wpp fun K_ h_ => ?_; go_simp; refine h_ _ _ ?_; clear h_ K_
 have cl0 := (hb5.up hu10.out).cell (o := 0) rfl
 refine wpp fun K_ h_ => ?_; go_simp; refine h_ _ _ ?_; clear h_ K_
 clear cl0
 refine wpp fun K_ h_ => ?_; go_simp; refine h_ _ _ ?_; clear h_ K_
 refine wpp fun K_ h_ => ?_; go_simp; refine h_ _ _ ?_; clear h_ K_
 refine wpp fun K_ h_ => ?_; go_simp; refine h_ _ _ ?_; clear h_ K_
 refine step_call (wanted_none rfl) (by go_simp <;> rfl) (spec_l01Mod.calls K (wrap64 ((wrap64 (a1_0 * a2_1)) - (wrap64 (a1_1 * a2_0)))) a0 t12 w9  A13.out) ?_
 rintro e w14 ⟨rfl, hu⟩
 have hu15 := Aside0.mk hu
 clear hu
 refine ⟨_, rfl, ?_⟩
 simp only [Act.put, nm1, nm2, nm3, i64_w]
 refine wpp fun K_ h_ => ?_; go_simp; refine h_ _ _ ?_; clear h_ K_
 refine wpList_nil ?_
 (try simp only [Exit.then, Exit.inBlock, ↓reduceIte, Nat.reduceEqDiff])
 refine hK11 _ _ ?_
 refine wp_seq_k (fun K16 hK16 => ?_)
 refine wp_seq_k (fun K17 hK17 => ?_)
 refine wp_region_lit ?_
 refine wpp fun K_ h_ => ?_; go_simp; refine h_ _ _ ?_; clear h_ K_
 refine wpp fun K_ h_ => ?_; go_simp; refine h_ _ _ ?_; clear h_ K_
 refine wpList_nil ?_
 (try simp only [Exit.then, Exit.inBlock, ↓reduceIte, Nat.reduceEqDiff])
 refine hK17 _ _ ?_
 have hm19 := Aside0.mk (Nat.le_trans ((Nat.le_trans ((Nat.le_trans (hu4.out.size) hu7.out.size)) hu10.out.size)) hu15.out.size)
 by_cases c18 : (t12 == 0) = true
 ·
  rw [if_pos c18] at H
  have c18n : (t12 != 0) = false := by rw [bne, c18]; rfl
  simp only [Option.some.injEq, Prod.mk.injEq] at H
  obtain ⟨rfl, rfl, rfl⟩ := H
  try simp only [c18, c18n, Bool.not_true, Bool.not_false]
  refine wp_cond_true rfl ?_
  refine wp_seq_k (fun K20 hK20 => ?_)
  refine wp_region_lit ?_
  refine wpp fun K_ h_ => ?_; go_simp; refine h_ _ _ ?_; clear h_ K_
  have hB0 := (hb8.up hu15.out)
  have cl0 := hB0.cell (o := 0) rfl
  have fr0 := hB0.free 0
  have cl1 := hB0.cell (o := 1) rfl
  have fr1 := hB0.free 1
  refine step_store (b := b8) (cs' := [.int .i64 0, .int .i64 0]) (T := 30) (W' := ((w14.setCell ⟨b8, 0, none⟩ (.int .i64 0)).setCell ⟨b8, 1, none⟩ (.int .i64 0))) rfl rfl (by go_simp <;> rfl) (((Sto.refl _ _).setCell 0 _).setCell 1 _) (((hB0).setCell 0 _).setCell 1 _) ?_
  clear hB0 cl0 fr0 cl1 fr1
  intro w21 hs hb23
  have hs22 := Aside0.mk hs
  clear hs
  refine wpp fun K_ h_ => ?_; go_simp; refine h_ _ _ ?_; clear h_ K_
  refine wpList_nil ?_
  (try simp only [Exit.then, Exit.inBlock, ↓reduceIte, Nat.reduceEqDiff])
  refine hK20 _ _ ?_
  refine wp_ret ?_
  (try simp only [Exit.then, Exit.inBlock, ↓reduceIte, Nat.reduceEqDiff])
  refine hQf _ _ _ ?_
  have cr0 := hb23.cell (o := 0) rfl
  have cr1 := hb23.cell (o := 1) rfl
  exact bodyPost_ret (v := .tuple #[.agg #[.int .i64 0, .int .i64 0], .bool false]) (by first | rfl | (simp [results, Try.results157, go_sem, cr0, cr1]; done) | (simp [results, Try.results157, go_sem, cr0, cr1]; rfl)) rfl ⟨rfl, ((((hu4.out.trans hu7.out).trans hu10.out).trans hu15.out).sto (Nat.le_trans ((Nat.le_trans (hu4.out.size) hu7.out.size)) lbb8.out) hs22.out)⟩
 rw [if_neg c18] at H; replace c18 := Bool.eq_false_iff.mpr c18
 have c18n : (t12 != 0) = true := by rw [bne, c18]; rfl
 have c18p : ¬ t12 = 0 := fun e => by simp [e] at c18
 replace H := Option.bind_eq_some_iff.mp H
 obtain ⟨t25, A26, H⟩ := H
 replace A26 := Aside0.mk A26
 try dsimp only at H
 try simp only [c18, c18n, Bool.not_true, Bool.not_false]
 refine wp_cond_false rfl ?_
 refine wp_skip ?_
 (try simp only [Exit.then, Exit.inBlock, ↓reduceIte, Nat.reduceEqDiff])
 refine hK16 _ _ ?_
 refine wp_seq_k (fun K24 hK24 => ?_)
 refine wp_region_lit ?_
 refine wpp fun K_ h_ => ?_; go_simp; refine h_ _ _ ?_; clear h_ K_
 refine wpp fun K_ h_ => ?_; go_simp; refine h_ _ _ ?_; clear h_ K_
 refine step_call (wanted_none rfl) (by go_simp <;> rfl) (spec_l01Inverse.calls K t12 a0 t25 w14  A26.out) ?_
 rintro e w27 ⟨rfl, hu⟩
 have hu28 := Aside0.mk hu
 clear hu
 refine ⟨_, rfl, ?_⟩
 simp only [Act.put, nm1, nm2, nm3, i64_w]
 refine wpp fun K_ h_ => ?_; go_simp; refine h_ _ _ ?_; clear h_ K_
 refine wpList_nil ?_
 (try simp only [Exit.then, Exit.inBlock, ↓reduceIte, Nat.reduceEqDiff])
 refine hK24 _ _ ?_
 refine wp_seq_k (fun K29 hK29 => ?_)
 have h31 := (hb2.up (((hu7.out.trans hu10.out).trans hu15.out).trans hu28.out))
 by_cases c30 : (a0 == 0) = true
 ·
  rw [if_pos c30] at H
  have c30n : (a0 != 0) = false := by rw [bne, c30]; rfl
  exact absurd H (by simp)
 rw [if_neg c30] at H; replace c30 := Bool.eq_false_iff.mpr c30
 have c30n : (a0 != 0) = true := by rw [bne, c30]; rfl
 have c30p : ¬ a0 = 0 := fun e => by simp [e] at c30
 replace H := Option.bind_eq_some_iff.mp H
 obtain ⟨t32, A33, H⟩ := H
 replace A33 := Aside0.mk A33
 try dsimp only at H
 replace H := Option.bind_eq_some_iff.mp H
 obtain ⟨t34, A35, H⟩ := H
 replace A35 := Aside0.mk A35
 try dsimp only at H
 simp only [Option.some.injEq, Prod.mk.injEq] at H
 obtain ⟨rfl, rfl, rfl⟩ := H
 try simp only [c30, c30n, Bool.not_true, Bool.not_false]
 refine' wp_region_up 35 [Slot.det _, Slot.det _, Slot.det _, Slot.det _, Slot.det _, Slot.det _, Slot.det _, Slot.det _, Slot.det _, Slot.det _, Slot.det _, Slot.det _, Slot.det _, Slot.det _, Slot.det _, Slot.det _, Slot.det (.int .i64 t32), Slot.det _, Slot.det _, Slot.det _, Slot.det _, Slot.det _, Slot.det _, Slot.det _, Slot.det _, Slot.det _, Slot.det _, Slot.det _, Slot.det _, Slot.det _, Slot.det _, Slot.det _, Slot.det _, Slot.det (.int .i64 t34), Slot.det _] (by kernel_rfl) (by kernel_rfl) ?main
 case main =>
  simp only [List.take_succ_cons, List.take_zero]
  refine wpK_ops rfl (fun w1 hu => ?_) ?_
  · clear hu
    go_simp
    first | done | rfl
  simp only [Act.put, nm1, nm2, nm3, i64_w]
  refine wpK_ops rfl (fun w1 hu => ?_) ?_
  · have cl0 := ((hb2.up (((hu7.out.trans hu10.out).trans hu15.out).trans hu28.out)).up ((Up.refl _).drew.trans hu)).cell (o := 1) rfl
    go_simp
    first | done | rfl
  simp only [Act.put, nm1, nm2, nm3, i64_w]
  refine wpK_ops rfl (fun w1 hu => ?_) ?_
  · clear hu
    go_simp
    first | done | rfl
  simp only [Act.put, nm1, nm2, nm3, i64_w]
  refine wpK_ops rfl (fun w1 hu => ?_) ?_
  · have cl0 := ((hb5.up ((hu10.out.trans hu15.out).trans hu28.out)).up ((Up.refl _).drew.trans hu)).cell (o := 2) rfl
    go_simp
    first | done | rfl
  simp only [Act.put, nm1, nm2, nm3, i64_w]
  refine wpK_ops rfl (fun w1 hu => ?_) ?_
  · clear hu
    go_simp
    first | done | rfl
  simp only [Act.put, nm1, nm2, nm3, i64_w]
  refine wpK_ops rfl (fun w1 hu => ?_) ?_
  · clear hu
    go_simp
    first | done | rfl
  simp only [Act.put, nm1, nm2, nm3, i64_w]
  refine wpK_ops rfl (fun w1 hu => ?_) ?_
  · have cl0 := ((hb5.up ((hu10.out.trans hu15.out).trans hu28.out)).up ((Up.refl _).drew.trans hu)).cell (o := 1) rfl
    go_simp
    first | done | rfl
  simp only [Act.put, nm1, nm2, nm3, i64_w]
  refine wpK_ops rfl (fun w1 hu => ?_) ?_
  · clear hu
    go_simp
    first | done | rfl
  simp only [Act.put, nm1, nm2, nm3, i64_w]
  refine wpK_ops rfl (fun w1 hu => ?_) ?_
  · have cl0 := ((hb2.up (((hu7.out.trans hu10.out).trans hu15.out).trans hu28.out)).up ((Up.refl _).drew.trans hu)).cell (o := 2) rfl
    go_simp
    first | done | rfl
  simp only [Act.put, nm1, nm2, nm3, i64_w]
  refine wpK_ops rfl (fun w1 hu => ?_) ?_
  · clear hu
    go_simp
    first | done | rfl
  simp only [Act.put, nm1, nm2, nm3, i64_w]
  refine wpK_ops rfl (fun w1 hu => ?_) ?_
  · clear hu
    go_simp
    first | done | rfl
  simp only [Act.put, nm1, nm2, nm3, i64_w]
  refine wpK_ops rfl (fun w1 hu => ?_) ?_
  · clear hu
    go_simp
    first | done | rfl
  simp only [Act.put, nm1, nm2, nm3, i64_w]
  refine wpK_ops rfl (fun w1 hu => ?_) ?_
  · clear hu
    go_simp
    first | done | rfl
  simp only [Act.put, nm1, nm2, nm3, i64_w]
  refine wpK_ops rfl (fun w1 hu => ?_) ?_
  · clear hu
    go_simp
    first | done | rfl
  simp only [Act.put, nm1, nm2, nm3, i64_w]
  refine wpK_ops rfl (fun w1 hu => ?_) ?_
  · clear hu
    go_simp
    first | done | rfl
  simp only [Act.put, nm1, nm2, nm3, i64_w]
  refine wpK_ops rfl (fun w1 hu => ?_) ?_
  · clear hu
    go_simp
    first | done | rfl
  simp only [Act.put, nm1, nm2, nm3, i64_w]
  refine wpK_ops rfl (fun w1 hu => ?_) ?_
  · have hcl := (spec_l01Mod.calls K (wrap64 ((Int.tmod (wrap64 ((wrap64 (a1_1 * a2_2)) - (wrap64 (a2_1 * a1_2)))) a0) * t25)) a0 t32 w1  A33.out)
    clear hu
    replace hcl := Aside0.mk hcl
    go_simp
    exact hcl.out
  simp only [Act.put, nm1, nm2, nm3, i64_w]
  refine wpK_ops rfl (fun w1 hu => ?_) ?_
  · clear hu
    go_simp
    first | done | rfl
  simp only [Act.put, nm1, nm2, nm3, i64_w]
  refine wpK_ops rfl (fun w1 hu => ?_) ?_
  · have cl0 := ((hb5.up ((hu10.out.trans hu15.out).trans hu28.out)).up ((Up.refl _).drew.trans hu)).cell (o := 0) rfl
    go_simp
    first | done | rfl
  simp only [Act.put, nm1, nm2, nm3, i64_w]
  refine wpK_ops rfl (fun w1 hu => ?_) ?_
  · clear hu
    go_simp
    first | done | rfl
  simp only [Act.put, nm1, nm2, nm3, i64_w]
  refine wpK_ops rfl (fun w1 hu => ?_) ?_
  · have cl0 := (h31.up ((Up.refl _).drew.trans hu)).cell (o := 2) rfl
    go_simp
    first | done | rfl
  simp only [Act.put, nm1, nm2, nm3, i64_w]
  refine wpK_ops rfl (fun w1 hu => ?_) ?_
  · clear hu
    go_simp
    first | done | rfl
  simp only [Act.put, nm1, nm2, nm3, i64_w]
  refine wpK_ops rfl (fun w1 hu => ?_) ?_
  · clear hu
    go_simp
    first | done | rfl
  simp only [Act.put, nm1, nm2, nm3, i64_w]
  refine wpK_ops rfl (fun w1 hu => ?_) ?_
  · have cl0 := (h31.up ((Up.refl _).drew.trans hu)).cell (o := 0) rfl
    go_simp
    first | done | rfl
  simp only [Act.put, nm1, nm2, nm3, i64_w]
  refine wpK_ops rfl (fun w1 hu => ?_) ?_
  · clear hu
    go_simp
    first | done | rfl
  simp only [Act.put, nm1, nm2, nm3, i64_w]
  refine wpK_ops rfl (fun w1 hu => ?_) ?_
  · have cl0 := ((hb5.up ((hu10.out.trans hu15.out).trans hu28.out)).up ((Up.refl _).drew.trans hu)).cell (o := 2) rfl
    go_simp
    first | done | rfl
  simp only [Act.put, nm1, nm2, nm3, i64_w]
  refine wpK_ops rfl (fun w1 hu => ?_) ?_
  · clear hu
    go_simp
    first | done | rfl
  simp only [Act.put, nm1, nm2, nm3, i64_w]
  refine wpK_ops rfl (fun w1 hu => ?_) ?_
  · clear hu
    go_simp
    first | done | rfl
  simp only [Act.put, nm1, nm2, nm3, i64_w]
  refine wpK_ops rfl (fun w1 hu => ?_) ?_
  · clear hu
    go_simp
    first | done | rfl
  simp only [Act.put, nm1, nm2, nm3, i64_w]
  refine wpK_ops rfl (fun w1 hu => ?_) ?_
  · clear hu
    go_simp
    first | done | rfl
  simp only [Act.put, nm1, nm2, nm3, i64_w]
  refine wpK_ops rfl (fun w1 hu => ?_) ?_
  · clear hu
    go_simp
    first | done | rfl
  simp only [Act.put, nm1, nm2, nm3, i64_w]
  refine wpK_ops rfl (fun w1 hu => ?_) ?_
  · clear hu
    go_simp
    first | done | rfl
  simp only [Act.put, nm1, nm2, nm3, i64_w]
  refine wpK_ops rfl (fun w1 hu => ?_) ?_
  · clear hu
    go_simp
    first | done | rfl
  simp only [Act.put, nm1, nm2, nm3, i64_w]
  refine wpK_ops rfl (fun w1 hu => ?_) ?_
  · have hcl := (spec_l01Mod.calls K (wrap64 ((Int.tmod (wrap64 ((wrap64 (a2_0 * a1_2)) - (wrap64 (a1_0 * a2_2)))) a0) * t25)) a0 t34 w1  A35.out)
    clear hu
    replace hcl := Aside0.mk hcl
    go_simp
    exact hcl.out
  simp only [Act.put, nm1, nm2, nm3, i64_w]
  refine wpK_ops rfl (fun w1 hu => ?_) ?_
  · clear hu
    go_simp
    first | done | rfl
  simp only [Act.put, nm1, nm2, nm3, i64_w]
  refine wpK_nil ?_
  intro w36 hu hap
  simp only [List.drop_succ_cons, List.drop_zero]
  replace hu := (Up.refl _).drew.trans hu
  clear hap
  have hu37 := Aside0.mk hu
  clear hu
  have hB0 := (hb8.up ((hu15.out.trans hu28.out).trans hu37.out))
  have cl0 := hB0.cell (o := 0) rfl
  have fr0 := hB0.free 0
  have cl1 := hB0.cell (o := 1) rfl
  have fr1 := hB0.free 1
  refine step_store (b := b8) (cs' := [.int .i64 t32, .int .i64 t34]) (T := 30) (W' := ((w36.setCell ⟨b8, 0, none⟩ (.int .i64 t32)).setCell ⟨b8, 1, none⟩ (.int .i64 t34))) rfl rfl (by go_simp <;> rfl) (((Sto.refl _ _).setCell 0 _).setCell 1 _) (((hB0).setCell 0 _).setCell 1 _) ?_
  clear hB0 cl0 fr0 cl1 fr1
  intro w38 hs hb40
  have hs39 := Aside0.mk hs
  clear hs
  have h41 := (h31.up hu37.out).sto hs39.out (Nat.ne_of_lt (Nat.lt_of_lt_of_le (Nat.lt_of_lt_of_le ltb2.out (hu7.out.size)) lbb8.out))
  refine wpp fun K_ h_ => ?_; go_simp; refine h_ _ _ ?_; clear h_ K_
  refine wpList_nil ?_
  (try simp only [Exit.then, Exit.inBlock, ↓reduceIte, Nat.reduceEqDiff])
  refine hK29 _ _ ?_
  refine wp_ret ?_
  (try simp only [Exit.then, Exit.inBlock, ↓reduceIte, Nat.reduceEqDiff])
  refine hQf _ _ _ ?_
  have cr0 := hb40.cell (o := 0) rfl
  have cr1 := hb40.cell (o := 1) rfl
  exact bodyPost_ret (v := .tuple #[.agg #[.int .i64 t32, .int .i64 t34], .bool true]) (by first | rfl | (simp [results, Try.results157, go_sem, cr0, cr1]; done) | (simp [results, Try.results157, go_sem, cr0, cr1]; rfl)) rfl ⟨rfl, ((((((hu4.out.trans hu7.out).trans hu10.out).trans hu15.out).trans hu28.out).trans hu37.out).sto (Nat.le_trans ((Nat.le_trans (hu4.out.size) hu7.out.size)) lbb8.out) hs39.out)⟩

set_option maxHeartbeats 40000000 in
set_option maxRecDepth 100000 in
theorem spec_l04Orthocentre.calls (K : Nat) (a0 : Int) (a1 : Int) (a2_0 : Int) (a2_1 : Int) (a3_0 : Int) (a3_1 : Int) (a4_0 : Int) (a4_1 : Int) (r0 : Int) (r1 : Int) (w : World)  (h : spec_l04Orthocentre.f K a0 a1 a2_0 a2_1 a3_0 a3_1 a4_0 a4_1 = some (r0, r1)) :
    Calls Try.prog 120 #[.int .i64 a0, .int .i64 a1, .agg #[.int .i64 a2_0, .int .i64 a2_1], .agg #[.int .i64 a3_0, .int .i64 a3_1], .agg #[.int .i64 a4_0, .int .i64 a4_1]] w fun e w' => e = .returned (.agg #[.int .i64 r0, .int .i64 r1]) ∧ Up w w' := by
 have H : (((spec_l04Altitude.f K a0 a1 a2_0 a2_1 a3_0 a3_1 a4_0 a4_1).bind fun (t15, t16, t17) => ((spec_l04Altitude.f K a0 a1 a3_0 a3_1 a2_0 a2_1 a4_0 a4_1).bind fun (t19, t20, t21) => ((spec_l01Meet.f K a0 t15 t16 t17 t19 t20 t21).bind fun (t23, t24, t25) => some (t23, t24)))) : Option (Int × Int)) = some (r0, r1) := h
 clear h
 replace H := Option.bind_eq_some_iff.mp H
 obtain ⟨⟨t15, t16, t17⟩, A18, H⟩ := H
 replace A18 := Aside0.mk A18
 try dsimp only at H
 replace H := Option.bind_eq_some_iff.mp H
 obtain ⟨⟨t19, t20, t21⟩, A22, H⟩ := H
 replace A22 := Aside0.mk A22
 try dsimp only at H
 replace H := Option.bind_eq_some_iff.mp H
 obtain ⟨⟨t23, t24, t25⟩, A26, H⟩ := H
 replace A26 := Aside0.mk A26
 try dsimp only at H
 simp only [Option.some.injEq, Prod.mk.injEq] at H
 obtain ⟨rfl, rfl⟩ := H
 go_enter Try.func120, Try.ntmps120
 refine wp_hide (fun Qf hQf => ?_)
 refine wp_seq_k (fun K1 hK1 => ?_)
 refine wp_region_lit ?_
 refine step_new (cs := [.int .i64 a2_0, .int .i64 a2_1]) (T := 30) (f := fun b => .pointer (some ⟨b, 0, none⟩)) rfl (by go_simp <;> rfl) ?_
 intro b2 w3 hu lb hb2
 simp only [Act.put, nm1, nm2, nm3, i64_w]
 have lbb2 := Aside0.mk lb
 have ltb2 := Aside0.mk hb2.lt
 clear lb
 have hu4 := Aside0.mk hu
 clear hu
 refine step_new (cs := [.int .i64 a3_0, .int .i64 a3_1]) (T := 30) (f := fun b => .pointer (some ⟨b, 0, none⟩)) rfl (by go_simp <;> rfl) ?_
 intro b5 w6 hu lb hb5
 simp only [Act.put, nm1, nm2, nm3, i64_w]
 have lbb5 := Aside0.mk lb
 have ltb5 := Aside0.mk hb5.lt
 clear lb
 have hu7 := Aside0.mk hu
 clear hu
 refine step_new (cs := [.int .i64 a4_0, .int .i64 a4_1]) (T := 30) (f := fun b => .pointer (some ⟨b, 0, none⟩)) rfl (by go_simp <;> rfl) ?_
 intro b8 w9 hu lb hb8
 simp only [Act.put, nm1, nm2, nm3, i64_w]
 have lbb8 := Aside0.mk lb
 have ltb8 := Aside0.mk hb8.lt
 clear lb
 have hu10 := Aside0.mk hu
 clear hu
 refine step_new (cs := [.int .i64 0, .int .i64 0]) (T := 30) (f := fun b => .pointer (some ⟨b, 0, none⟩)) rfl (by go_simp <;> rfl) ?_
 intro b11 w12 hu lb hb11
 simp only [Act.put, nm1, nm2, nm3, i64_w]
 have lbb11 := Aside0.mk lb
 have ltb11 := Aside0.mk hb11.lt
 clear lb
 have hu13 := Aside0.mk hu
 clear hu
 refine wpList_nil ?_
 (try simp only [Exit.then, Exit.inBlock, ↓reduceIte, Nat.reduceEqDiff])
 refine hK1 _ _ ?_
 refine wp_seq_k (fun K14 hK14 => ?_)
 have hTT_ : ∀ w_, Up (World.drew w12) w_ → (fun w_ => True) w_ := fun w_ hu_ => True.intro
 refine' wp_region_pure (fun w_ => True) 18 [16] [Slot.det _, Slot.det _, Slot.det _, Slot.det _, Slot.det _, Slot.det _, Slot.det (.agg #[.int .i64 t15, .int .i64 t16, .int .i64 t17]), Slot.det _, Slot.det _, Slot.det _, Slot.det _, Slot.det _, Slot.det (.agg #[.int .i64 t19, .int .i64 t20, .int .i64 t21]), Slot.det (.tuple #[.agg #[.int .i64 t23, .int .i64 t24], .bool t25]), Slot.det _, Slot.det _, Slot.pur _, Slot.any (PtrTo [.int .i64 0, .int .i64 0] 30) true] (by kernel_rfl) [false, false, false, false, false, false, false, false, false, false, false, false, false, false, false, false, true, false] (by kernel_rfl) rfl (by kernel_rfl) (by decide) hTT_ ?main
 case main =>
  simp only [List.take_succ_cons, List.take_zero]
  refine wpK_ops rfl (fun w1 hu => ?_) ?_
  · clear hu
    go_simp
    first | done | rfl
  simp only [Act.put, nm1, nm2, nm3, i64_w]
  refine wpK_ops rfl (fun w1 hu => ?_) ?_
  · clear hu
    go_simp
    first | done | rfl
  simp only [Act.put, nm1, nm2, nm3, i64_w]
  refine wpK_ops rfl (fun w1 hu => ?_) ?_
  · clear hu
    go_simp
    first | done | rfl
  simp only [Act.put, nm1, nm2, nm3, i64_w]
  refine wpK_ops rfl (fun w1 hu => ?_) ?_
  · have cl0 := ((hb2.up ((hu7.out.trans hu10.out).trans hu13.out)).up ((Up.refl _).drew.trans hu)).cell (o := 0) rfl
    have cl1 := ((hb2.up ((hu7.out.trans hu10.out).trans hu13.out)).up ((Up.refl _).drew.trans hu)).cell (o := 1) rfl
    go_simp
    first | done | rfl
  simp only [Act.put, nm1, nm2, nm3, i64_w]
  refine wpK_ops rfl (fun w1 hu => ?_) ?_
  · have cl0 := ((hb5.up (hu10.out.trans hu13.out)).up ((Up.refl _).drew.trans hu)).cell (o := 0) rfl
    have cl1 := ((hb5.up (hu10.out.trans hu13.out)).up ((Up.refl _).drew.trans hu)).cell (o := 1) rfl
    go_simp
    first | done | rfl
  simp only [Act.put, nm1, nm2, nm3, i64_w]
  refine wpK_ops rfl (fun w1 hu => ?_) ?_
  · have cl0 := ((hb8.up hu13.out).up ((Up.refl _).drew.trans hu)).cell (o := 0) rfl
    have cl1 := ((hb8.up hu13.out).up ((Up.refl _).drew.trans hu)).cell (o := 1) rfl
    go_simp
    first | done | rfl
  simp only [Act.put, nm1, nm2, nm3, i64_w]
  refine wpK_ops rfl (fun w1 hu => ?_) ?_
  · have hcl := (spec_l04Altitude.calls K a0 a1 a2_0 a2_1 a3_0 a3_1 a4_0 a4_1 t15 t16 t17 w1  A18.out)
    clear hu
    replace hcl := Aside0.mk hcl
    go_simp
    exact hcl.out
  simp only [Act.put, nm1, nm2, nm3, i64_w]
  refine wpK_ops rfl (fun w1 hu => ?_) ?_
  · clear hu
    go_simp
    first | done | rfl
  simp only [Act.put, nm1, nm2, nm3, i64_w]
  refine wpK_ops rfl (fun w1 hu => ?_) ?_
  · clear hu
    go_simp
    first | done | rfl
  simp only [Act.put, nm1, nm2, nm3, i64_w]
  refine wpK_ops rfl (fun w1 hu => ?_) ?_
  · have cl0 := ((hb5.up (hu10.out.trans hu13.out)).up ((Up.refl _).drew.trans hu)).cell (o := 0) rfl
    have cl1 := ((hb5.up (hu10.out.trans hu13.out)).up ((Up.refl _).drew.trans hu)).cell (o := 1) rfl
    go_simp
    first | done | rfl
  simp only [Act.put, nm1, nm2, nm3, i64_w]
  refine wpK_ops rfl (fun w1 hu => ?_) ?_
  · have cl0 := ((hb2.up ((hu7.out.trans hu10.out).trans hu13.out)).up ((Up.refl _).drew.trans hu)).cell (o := 0) rfl
    have cl1 := ((hb2.up ((hu7.out.trans hu10.out).trans hu13.out)).up ((Up.refl _).drew.trans hu)).cell (o := 1) rfl
    go_simp
    first | done | rfl
  simp only [Act.put, nm1, nm2, nm3, i64_w]
  refine wpK_ops rfl (fun w1 hu => ?_) ?_
  · have cl0 := ((hb8.up hu13.out).up ((Up.refl _).drew.trans hu)).cell (o := 0) rfl
    have cl1 := ((hb8.up hu13.out).up ((Up.refl _).drew.trans hu)).cell (o := 1) rfl
    go_simp
    first | done | rfl
  simp only [Act.put, nm1, nm2, nm3, i64_w]
  refine wpK_ops rfl (fun w1 hu => ?_) ?_
  · have hcl := (spec_l04Altitude.calls K a0 a1 a3_0 a3_1 a2_0 a2_1 a4_0 a4_1 t19 t20 t21 w1  A22.out)
    clear hu
    replace hcl := Aside0.mk hcl
    go_simp
    exact hcl.out
  simp only [Act.put, nm1, nm2, nm3, i64_w]
  refine wpK_ops rfl (fun w1 hu => ?_) ?_
  · have hcl := (spec_l01Meet.calls K a0 t15 t16 t17 t19 t20 t21 t23 t24 t25 w1  A26.out)
    clear hu
    replace hcl := Aside0.mk hcl
    go_simp
    exact hcl.out
  simp only [Act.put, nm1, nm2, nm3, i64_w]
  refine wpK_ops rfl (fun w1 hu => ?_) ?_
  · clear hu
    go_simp
    first | done | rfl
  simp only [Act.put, nm1, nm2, nm3, i64_w]
  refine wpK_ops rfl (fun w1 hu => ?_) ?_
  · clear hu
    go_simp
    first | done | rfl
  simp only [Act.put, nm1, nm2, nm3, i64_w]
  refine wpK_pur rfl hTT_ (fun w1 hT => ?_) ?_
  · clear hT
    go_simp
    first | done | rfl
  simp only [Act.put, nm1, nm2, nm3, i64_w]
  refine wpK_any rfl (stab_ptr _ _) (fun w1 _ _ => fresh_ptr (by go_simp <;> rfl)) (fun v27 => ?_)
  simp only [Act.put, nm1, nm2, nm3, i64_w]
  refine wpK_nil ?_
  intro w29 hu hap
  simp only [List.drop_succ_cons, List.drop_zero]
  replace hu := (Up.refl _).drew.trans hu
  obtain ⟨hf0, hn0, ⟨b28, e0, hb28⟩, -⟩ := hap
  have lbb28 := Aside0.mk (hf0 rfl b28 (by rw [e0]; rfl)).1
  have ltb28 := Aside0.mk hb28.lt
  dsimp only at e0
  subst e0
  clear hf0 hn0
  have hu30 := Aside0.mk hu
  clear hu
  refine late_consT True.intro ?_
  have hB0 := hb28
  have cl0 := hB0.cell (o := 0) rfl
  have fr0 := hB0.free 0
  have cl1 := hB0.cell (o := 1) rfl
  have fr1 := hB0.free 1
  refine step_store (b := b28) (cs' := [.int .i64 t23, .int .i64 t24]) (T := 30) (W' := ((w29.setCell ⟨b28, 0, none⟩ (.int .i64 t23)).setCell ⟨b28, 1, none⟩ (.int .i64 t24))) rfl rfl (by go_simp <;> rfl) (((Sto.refl _ _).setCell 0 _).setCell 1 _) (((hB0).setCell 0 _).setCell 1 _) ?_
  clear hB0 cl0 fr0 cl1 fr1
  intro w31 hs hb33
  have hs32 := Aside0.mk hs
  clear hs
  refine wpList_nil ?_
  refine wrapQ_k ?_
  refine late_consT True.intro ?_
  refine wpp fun K_ h_ => ?_; go_simp; refine h_ _ _ ?_; clear h_ K_
  refine wpList_nil ?_
  refine wrapQ_k ?_
  refine late_nilT True.intro ?_
  (try simp only [Exit.then, Exit.inBlock, ↓reduceIte, Nat.reduceEqDiff])
  refine hK14 _ _ ?_
  refine wp_seq_k (fun K34 hK34 => ?_)
  refine wp_region_lit ?_
  have cl0 := hb33.cell (o := 0) rfl
  have cl1 := hb33.cell (o := 1) rfl
  refine wpp fun K_ h_ => ?_; go_simp; refine h_ _ _ ?_; clear h_ K_
  clear cl0 cl1
  have hB0 := (hb11.up (hu30.out.sto (Nat.le_trans (Nat.le_refl _) lbb28.out) hs32.out))
  have cl0 := hB0.cell (o := 0) rfl
  have fr0 := hB0.free 0
  have cl1 := hB0.cell (o := 1) rfl
  have fr1 := hB0.free 1
  refine step_store (b := b11) (cs' := [.int .i64 t23, .int .i64 t24]) (T := 30) (W' := ((w31.setCell ⟨b11, 0, none⟩ (.int .i64 t23)).setCell ⟨b11, 1, none⟩ (.int .i64 t24))) rfl rfl (by go_simp <;> rfl) (((Sto.refl _ _).setCell 0 _).setCell 1 _) (((hB0).setCell 0 _).setCell 1 _) ?_
  clear hB0 cl0 fr0 cl1 fr1
  intro w35 hs hb37
  have hs36 := Aside0.mk hs
  clear hs
  have h38 := hb33.sto hs36.out (Ne.symm (Nat.ne_of_lt (Nat.lt_of_lt_of_le ltb11.out lbb28.out)))
  refine wpList_nil ?_
  (try simp only [Exit.then, Exit.inBlock, ↓reduceIte, Nat.reduceEqDiff])
  refine hK34 _ _ ?_
  refine wp_ret ?_
  (try simp only [Exit.then, Exit.inBlock, ↓reduceIte, Nat.reduceEqDiff])
  refine hQf _ _ _ ?_
  have cr0 := hb37.cell (o := 0) rfl
  have cr1 := hb37.cell (o := 1) rfl
  exact bodyPost_ret (v := .agg #[.int .i64 t23, .int .i64 t24]) (by first | rfl | (simp [results, Try.results120, go_sem, cr0, cr1]; done) | (simp [results, Try.results120, go_sem, cr0, cr1]; rfl)) rfl ⟨rfl, ((((((hu4.out.trans hu7.out).trans hu10.out).trans hu13.out).trans hu30.out).sto (Nat.le_trans ((Nat.le_trans ((Nat.le_trans ((Nat.le_trans (hu4.out.size) hu7.out.size)) hu10.out.size)) hu13.out.size)) lbb28.out) hs32.out).sto (Nat.le_trans ((Nat.le_trans ((Nat.le_trans (hu4.out.size) hu7.out.size)) hu10.out.size)) lbb11.out) hs36.out)⟩

set_option maxHeartbeats 40000000 in
set_option maxRecDepth 100000 in
theorem spec_OrthocentreOf.calls (K : Nat) (a0 : Int) (a1 : Int) (a2_0 : Int) (a2_1 : Int) (a3_0 : Int) (a3_1 : Int) (a4_0 : Int) (a4_1 : Int) (r0 : Int) (r1 : Int) (r2 : Int) (w : World)  (h : spec_OrthocentreOf.f K a0 a1 a2_0 a2_1 a3_0 a3_1 a4_0 a4_1 = some (r0, r1, r2)) :
    Calls Try.prog 36 #[.int .i64 a0, .int .i64 a1, .agg #[.int .i64 a2_0, .int .i64 a2_1], .agg #[.int .i64 a3_0, .int .i64 a3_1], .agg #[.int .i64 a4_0, .int .i64 a4_1]] w fun e w' => e = .returned (.tuple #[.agg #[.int .i64 r0, .int .i64 r1], .int .i64 r2]) ∧ Up w w' := by
 have H : (((spec_l04Code.f K a0 a1 a2_0 a2_1 a3_0 a3_1 a4_0 a4_1).bind fun t16 => (if (t16 == 0) = true then ((spec_l04Orthocentre.f K a0 a1 a2_0 a2_1 a3_0 a3_1 a4_0 a4_1).bind fun (t25, t26) => some (t25, t26, 0)) else some (0, 0, t16))) : Option (Int × Int × Int)) = some (r0, r1, r2) := h
 clear h
 replace H := Option.bind_eq_some_iff.mp H
 obtain ⟨t16, A17, H⟩ := H
 replace A17 := Aside0.mk A17
 try dsimp only at H
 go_enter Try.func36, Try.ntmps36
 refine wp_hide (fun Qf hQf => ?_)
 refine wp_seq_k (fun K1 hK1 => ?_)
 refine wp_region_lit ?_
 refine step_new (cs := [.int .i64 a2_0, .int .i64 a2_1]) (T := 30) (f := fun b => .pointer (some ⟨b, 0, none⟩)) rfl (by go_simp <;> rfl) ?_
 intro b2 w3 hu lb hb2
 simp only [Act.put, nm1, nm2, nm3, i64_w]
 have lbb2 := Aside0.mk lb
 have ltb2 := Aside0.mk hb2.lt
 clear lb
 have hu4 := Aside0.mk hu
 clear hu
 refine step_new (cs := [.int .i64 a3_0, .int .i64 a3_1]) (T := 30) (f := fun b => .pointer (some ⟨b, 0, none⟩)) rfl (by go_simp <;> rfl) ?_
 intro b5 w6 hu lb hb5
 simp only [Act.put, nm1, nm2, nm3, i64_w]
 have lbb5 := Aside0.mk lb
 have ltb5 := Aside0.mk hb5.lt
 clear lb
 have hu7 := Aside0.mk hu
 clear hu
 refine step_new (cs := [.int .i64 a4_0, .int .i64 a4_1]) (T := 30) (f := fun b => .pointer (some ⟨b, 0, none⟩)) rfl (by go_simp <;> rfl) ?_
 intro b8 w9 hu lb hb8
 simp only [Act.put, nm1, nm2, nm3, i64_w]
 have lbb8 := Aside0.mk lb
 have ltb8 := Aside0.mk hb8.lt
 clear lb
 have hu10 := Aside0.mk hu
 clear hu
 refine step_new (cs := [.int .i64 0, .int .i64 0]) (T := 30) (f := fun b => .pointer (some ⟨b, 0, none⟩)) rfl (by go_simp <;> rfl) ?_
 intro b11 w12 hu lb hb11
 simp only [Act.put, nm1, nm2, nm3, i64_w]
 have lbb11 := Aside0.mk lb
 have ltb11 := Aside0.mk hb11.lt
 clear lb
 have hu13 := Aside0.mk hu
 clear hu
 refine wpp fun K_ h_ => ?_; go_simp; refine h_ _ _ ?_; clear h_ K_
 refine wpList_nil ?_
 (try simp only [Exit.then, Exit.inBlock, ↓reduceIte, Nat.reduceEqDiff])
 refine hK1 _ _ ?_
 refine wp_seq_k (fun K14 hK14 => ?_)
 refine wp_seq_k (fun K15 hK15 => ?_)
 refine wp_region_lit ?_
 refine wpp fun K_ h_ => ?_; go_simp; refine h_ _ _ ?_; clear h_ K_
 refine wpp fun K_ h_ => ?_; go_simp; refine h_ _ _ ?_; clear h_ K_
 have cl0 := (hb2.up ((hu7.out.trans hu10.out).trans hu13.out)).cell (o := 0) rfl
 have cl1 := (hb2.up ((hu7.out.trans hu10.out).trans hu13.out)).cell (o := 1) rfl
 refine wpp fun K_ h_ => ?_; go_simp; refine h_ _ _ ?_; clear h_ K_
 clear cl0 cl1
 have cl0 := (hb5.up (hu10.out.trans hu13.out)).cell (o := 0) rfl
 have cl1 := (hb5.up (hu10.out.trans hu13.out)).cell (o := 1) rfl
 refine wpp fun K_ h_ => ?_; go_simp; refine h_ _ _ ?_; clear h_ K_
 clear cl0 cl1
 have cl0 := (hb8.up hu13.out).cell (o := 0) rfl
 have cl1 := (hb8.up hu13.out).cell (o := 1) rfl
 refine wpp fun K_ h_ => ?_; go_simp; refine h_ _ _ ?_; clear h_ K_
 clear cl0 cl1
 refine step_call (wanted_none rfl) (by go_simp <;> rfl) (spec_l04Code.calls K a0 a1 a2_0 a2_1 a3_0 a3_1 a4_0 a4_1 t16 w12  A17.out) ?_
 rintro e w18 ⟨rfl, hu⟩
 have hu19 := Aside0.mk hu
 clear hu
 refine ⟨_, rfl, ?_⟩
 simp only [Act.put, nm1, nm2, nm3, i64_w]
 refine wpp fun K_ h_ => ?_; go_simp; refine h_ _ _ ?_; clear h_ K_
 refine wpList_nil ?_
 (try simp only [Exit.then, Exit.inBlock, ↓reduceIte, Nat.reduceEqDiff])
 refine hK15 _ _ ?_
 refine wp_seq_k (fun K20 hK20 => ?_)
 refine wp_region_lit ?_
 refine wpp fun K_ h_ => ?_; go_simp; refine h_ _ _ ?_; clear h_ K_
 refine wpp fun K_ h_ => ?_; go_simp; refine h_ _ _ ?_; clear h_ K_
 refine wpList_nil ?_
 (try simp only [Exit.then, Exit.inBlock, ↓reduceIte, Nat.reduceEqDiff])
 refine hK20 _ _ ?_
 have hm22 := Aside0.mk (Nat.le_trans ((Nat.le_trans ((Nat.le_trans ((Nat.le_trans (hu4.out.size) hu7.out.size)) hu10.out.size)) hu13.out.size)) hu19.out.size)
 have h23 := (hb2.up (((hu7.out.trans hu10.out).trans hu13.out).trans hu19.out))
 by_cases c21 : (t16 == 0) = true
 rotate_left
 ·
  rw [if_neg c21] at H; replace c21 := Bool.eq_false_iff.mpr c21
  have c21n : (t16 != 0) = true := by rw [bne, c21]; rfl
  have c21p : ¬ t16 = 0 := fun e => by simp [e] at c21
  simp only [Option.some.injEq, Prod.mk.injEq] at H
  obtain ⟨rfl, rfl, rfl⟩ := H
  try simp only [c21, c21n, Bool.not_true, Bool.not_false]
  refine wp_cond_true rfl ?_
  refine wp_seq_k (fun K34 hK34 => ?_)
  refine wp_region_lit ?_
  refine wpp fun K_ h_ => ?_; go_simp; refine h_ _ _ ?_; clear h_ K_
  refine wpp fun K_ h_ => ?_; go_simp; refine h_ _ _ ?_; clear h_ K_
  have hB0 := (hb11.up hu19.out)
  have cl0 := hB0.cell (o := 0) rfl
  have fr0 := hB0.free 0
  have cl1 := hB0.cell (o := 1) rfl
  have fr1 := hB0.free 1
  refine step_store (b := b11) (cs' := [.int .i64 0, .int .i64 0]) (T := 30) (W' := ((w18.setCell ⟨b11, 0, none⟩ (.int .i64 0)).setCell ⟨b11, 1, none⟩ (.int .i64 0))) rfl rfl (by go_simp <;> rfl) (((Sto.refl _ _).setCell 0 _).setCell 1 _) (((hB0).setCell 0 _).setCell 1 _) ?_
  clear hB0 cl0 fr0 cl1 fr1
  intro w35 hs hb37
  have hs36 := Aside0.mk hs
  clear hs
  have h38 := h23.sto hs36.out (Nat.ne_of_lt (Nat.lt_of_lt_of_le (Nat.lt_of_lt_of_le ltb2.out ((Nat.le_trans (hu7.out.size) hu10.out.size))) lbb11.out))
  refine wpp fun K_ h_ => ?_; go_simp; refine h_ _ _ ?_; clear h_ K_
  refine wpList_nil ?_
  (try simp only [Exit.then, Exit.inBlock, ↓reduceIte, Nat.reduceEqDiff])
  refine hK34 _ _ ?_
  refine wp_ret ?_
  (try simp only [Exit.then, Exit.inBlock, ↓reduceIte, Nat.reduceEqDiff])
  refine hQf _ _ _ ?_
  have cr0 := hb37.cell (o := 0) rfl
  have cr1 := hb37.cell (o := 1) rfl
  exact bodyPost_ret (v := .tuple #[.agg #[.int .i64 0, .int .i64 0], .int .i64 t16]) (by first | rfl | (simp [results, Try.results36, go_sem, cr0, cr1]; done) | (simp [results, Try.results36, go_sem, cr0, cr1]; rfl)) rfl ⟨rfl, (((((hu4.out.trans hu7.out).trans hu10.out).trans hu13.out).trans hu19.out).sto (Nat.le_trans ((Nat.le_trans ((Nat.le_trans (hu4.out.size) hu7.out.size)) hu10.out.size)) lbb11.out) hs36.out)⟩
 rw [if_pos c21] at H
 have c21n : (t16 != 0) = false := by rw [bne, c21]; rfl
 replace H := Option.bind_eq_some_iff.mp H
 obtain ⟨⟨t25, t26⟩, A27, H⟩ := H
 replace A27 := Aside0.mk A27
 try dsimp only at H
 simp only [Option.some.injEq, Prod.mk.injEq] at H
 obtain ⟨rfl, rfl, rfl⟩ := H
 try simp only [c21, c21n, Bool.not_true, Bool.not_false]
 refine wp_cond_false rfl ?_
 refine wp_skip ?_
 (try simp only [Exit.then, Exit.inBlock, ↓reduceIte, Nat.reduceEqDiff])
 refine hK14 _ _ ?_
 refine wp_seq_k (fun K24 hK24 => ?_)
 refine wp_region_lit ?_
 refine wpp fun K_ h_ => ?_; go_simp; refine h_ _ _ ?_; clear h_ K_
 refine wpp fun K_ h_ => ?_; go_simp; refine h_ _ _ ?_; clear h_ K_
 have cl0 := h23.cell (o := 0) rfl
 have cl1 := h23.cell (o := 1) rfl
 refine wpp fun K_ h_ => ?_; go_simp; refine h_ _ _ ?_; clear h_ K_
 clear cl0 cl1
 have cl0 := (hb5.up ((hu10.out.trans hu13.out).trans hu19.out)).cell (o := 0) rfl
 have cl1 := (hb5.up ((hu10.out.trans hu13.out).trans hu19.out)).cell (o := 1) rfl
 refine wpp fun K_ h_ => ?_; go_simp; refine h_ _ _ ?_; clear h_ K_
 clear cl0 cl1
 have cl0 := (hb8.up (hu13.out.trans hu19.out)).cell (o := 0) rfl
 have cl1 := (hb8.up (hu13.out.trans hu19.out)).cell (o := 1) rfl
 refine wpp fun K_ h_ => ?_; go_simp; refine h_ _ _ ?_; clear h_ K_
 clear cl0 cl1
 refine step_call (wanted_none rfl) (by go_simp <;> rfl) (spec_l04Orthocentre.calls K a0 a1 a2_0 a2_1 a3_0 a3_1 a4_0 a4_1 t25 t26 w18  A27.out) ?_
 rintro e w28 ⟨rfl, hu⟩
 have hu29 := Aside0.mk hu
 clear hu
 refine ⟨_, rfl, ?_⟩
 simp only [Act.put, nm1, nm2, nm3, i64_w]
 have hB0 := (hb11.up (hu19.out.trans hu29.out))
 have cl0 := hB0.cell (o := 0) rfl
 have fr0 := hB0.free 0
 have cl1 := hB0.cell (o := 1) rfl
 have fr1 := hB0.free 1
 refine step_store (b := b11) (cs' := [.int .i64 t25, .int .i64 t26]) (T := 30) (W' := ((w28.setCell ⟨b11, 0, none⟩ (.int .i64 t25)).setCell ⟨b11, 1, none⟩ (.int .i64 t26))) rfl rfl (by go_simp <;> rfl) (((Sto.refl _ _).setCell 0 _).setCell 1 _) (((hB0).setCell 0 _).setCell 1 _) ?_
 clear hB0 cl0 fr0 cl1 fr1
 intro w30 hs hb32
 have hs31 := Aside0.mk hs
 clear hs
 have h33 := (h23.up hu29.out).sto hs31.out (Nat.ne_of_lt (Nat.lt_of_lt_of_le (Nat.lt_of_lt_of_le ltb2.out ((Nat.le_trans (hu7.out.size) hu10.out.size))) lbb11.out))
 refine wpp fun K_ h_ => ?_; go_simp; refine h_ _ _ ?_; clear h_ K_
 refine wpList_nil ?_
 (try simp only [Exit.then, Exit.inBlock, ↓reduceIte, Nat.reduceEqDiff])
 refine hK24 _ _ ?_
 refine wp_ret ?_
 (try simp only [Exit.then, Exit.inBlock, ↓reduceIte, Nat.reduceEqDiff])
 refine hQf _ _ _ ?_
 have cr0 := hb32.cell (o := 0) rfl
 have cr1 := hb32.cell (o := 1) rfl
 exact bodyPost_ret (v := .tuple #[.agg #[.int .i64 t25, .int .i64 t26], .int .i64 0]) (by first | rfl | (simp [results, Try.results36, go_sem, cr0, cr1]; done) | (simp [results, Try.results36, go_sem, cr0, cr1]; rfl)) rfl ⟨rfl, ((((((hu4.out.trans hu7.out).trans hu10.out).trans hu13.out).trans hu19.out).trans hu29.out).sto (Nat.le_trans ((Nat.le_trans ((Nat.le_trans (hu4.out.size) hu7.out.size)) hu10.out.size)) lbb11.out) hs31.out)⟩

set_option maxHeartbeats 40000000 in
set_option maxRecDepth 100000 in
theorem impl_allPoints.calls (K : Nat) (a0 : Int) (r0 : List (Int × Int)) (w : World)  (h : impl_allPoints.f K a0 = some (r0)) :
    Calls Try.prog 155 #[.int .i64 a0] w fun e w' => ∃ (Ar0 : Option Addr) (cr0 : Nat), e = .returned (.slice Ar0 r0.length cr0) ∧ Own e2 30 w' w.heap.size (.slice Ar0 r0.length cr0) r0 ∧ Up w w' := by
 have H : ((impl_allPoints.l0 K a0 K 0 ([] : List (Int × Int))) : Option (List (Int × Int))) = some (r0) := h
 clear h
 go_enter Try.func155, Try.ntmps155
 refine wp_hide (fun Qf hQf => ?_)
 refine wp_seq_k (fun K1 hK1 => ?_)
 refine wp_region_lit ?_
 refine wpp fun K_ h_ => ?_; go_simp; refine h_ _ _ ?_; clear h_ K_
 refine wpList_nil ?_
 (try simp only [Exit.then, Exit.inBlock, ↓reduceIte, Nat.reduceEqDiff])
 refine hK1 _ _ ?_
 refine wp_seq_k (fun K2 hK2 => ?_)
 refine wp_region_lit ?_
 refine step_new (cs := []) (T := 30) (f := fun b => .slice (some ⟨b, 0, none⟩) 0 0) rfl (by go_simp <;> rfl) ?_
 intro b3 w4 hu lb hb3
 simp only [Act.put, nm1, nm2, nm3, i64_w]
 have lbb3 := Aside0.mk lb
 have ltb3 := Aside0.mk hb3.lt
 clear lb
 have hu5 := Aside0.mk hu
 clear hu
 refine wpp fun K_ h_ => ?_; go_simp; refine h_ _ _ ?_; clear h_ K_
 refine wpList_nil ?_
 (try simp only [Exit.then, Exit.inBlock, ↓reduceIte, Nat.reduceEqDiff])
 refine hK2 _ _ ?_
 refine wp_seq_k (fun K6 hK6 => ?_)
 refine wp_seq_k (fun K7 hK7 => ?_)
 refine wp_region_lit ?_
 refine wpp fun K_ h_ => ?_; go_simp; refine h_ _ _ ?_; clear h_ K_
 refine wpList_nil ?_
 (try simp only [Exit.then, Exit.inBlock, ↓reduceIte, Nat.reduceEqDiff])
 refine hK7 _ _ ?_
 refine wp_block ?_
 have h9 : Own e2 30 w4 w.heap.size (.slice (some ⟨b3, 0, none⟩) ([].length) 0) [] := Own.of_blk hb3 lbb3.out rfl (by simp) (by simp [Enc.flat, e2])
 have HL17 := Aside0.mk H
 clear H
 go_loopg [4, 3] K (fun kq v4 v3 w' => ∃ (x10 : Int) (x11 : List (Int × Int)) (P12 : Option Addr) (q13 : Nat), v4 = .int .i64 x10 ∧ v3 = .slice P12 x11.length q13 ∧ Aside0 (impl_allPoints.l0 K a0 kq x10 x11 = some (r0)) ∧ Aside0 (kq ≤ K) ∧ Aside0 (Up w w') ∧ Aside0 (w4.heap.size ≤ w'.heap.size) ∧ Own e2 30 w' w.heap.size (.slice P12 x11.length q13) x11)
 case atStart => exact ⟨0, ([] : List (Int × Int)), some ⟨b3, 0, none⟩, 0, (by first | rfl | simp), (by first | rfl | simp), HL17, ⟨Nat.le_refl _⟩, ⟨hu5.out⟩, ⟨Nat.le_refl _⟩, h9⟩
 case round =>
  rename_i J22 K23 hJ22 hK23
  obtain ⟨x10, x11, P12, q13, rfl, rfl, HL21, hk20, hu15, hz16, h18⟩ := hrel
  obtain ⟨w14, rfl⟩ : ∃ wo : World, wo = wr := ⟨_, rfl⟩
  obtain ⟨k19, rfl⟩ | rfl : (∃ k, gk = k + 1) ∨ gk = 0 := by rcases gk with _ | k; exact .inr rfl; exact .inl ⟨k, rfl⟩
  case inr => exact absurd HL21.out (by simp [impl_allPoints.l0])
  have H := HL21.out
  clear HL21
  rw [impl_allPoints.l0] at H
  refine wp_seq_k (fun K24 hK24 => ?_)
  refine wp_seq_k (fun K25 hK25 => ?_)
  refine wp_region_lit ?_
  refine wpp fun K_ h_ => ?_; go_simp; refine h_ _ _ ?_; clear h_ K_
  refine wpp fun K_ h_ => ?_; go_simp; refine h_ _ _ ?_; clear h_ K_
  refine wpp fun K_ h_ => ?_; go_simp; refine h_ _ _ ?_; clear h_ K_
  refine wpList_nil ?_
  (try simp only [Exit.then, Exit.inBlock, ↓reduceIte, Nat.reduceEqDiff])
  refine hK25 _ _ ?_
  by_cases c26 : (decide (x10 < a0)) = true
  rotate_left
  ·
   rw [if_neg c26] at H; replace c26 := Bool.eq_false_iff.mpr c26
   obtain rfl := Option.some.inj H
   try simp only [c26, Bool.not_true, Bool.not_false]
   refine wp_cond_false rfl ?_
   refine wp_exit ?_
   (try simp only [Exit.then, Exit.inBlock, ↓reduceIte, Nat.reduceEqDiff])
   refine hK6 _ _ ?_
   refine wp_seq_k (fun K63 hK63 => ?_)
   refine wp_region_lit ?_
   refine wpp fun K_ h_ => ?_; go_simp; refine h_ _ _ ?_; clear h_ K_
   refine wpp fun K_ h_ => ?_; go_simp; refine h_ _ _ ?_; clear h_ K_
   refine wpList_nil ?_
   (try simp only [Exit.then, Exit.inBlock, ↓reduceIte, Nat.reduceEqDiff])
   refine hK63 _ _ ?_
   refine wp_ret ?_
   (try simp only [Exit.then, Exit.inBlock, ↓reduceIte, Nat.reduceEqDiff])
   refine hQf _ _ _ ?_
   exact bodyPost_ret (v := .slice P12 x11.length q13) (by first | rfl | (simp [results, Try.results155, go_sem]; done) | (simp [results, Try.results155, go_sem]; rfl)) rfl ⟨P12, q13, rfl, (h18.lower (Nat.le_refl _)), hu15.out⟩
  rw [if_pos c26] at H
  try simp only [c26, Bool.not_true, Bool.not_false]
  refine wp_cond_true rfl ?_
  refine wp_skip ?_
  (try simp only [Exit.then, Exit.inBlock, ↓reduceIte, Nat.reduceEqDiff])
  refine hK24 _ _ ?_
  refine wp_seq_k (fun K27 hK27 => ?_)
  refine wp_block ?_
  refine wp_seq_k (fun K28 hK28 => ?_)
  refine wp_region_lit ?_
  refine wpp fun K_ h_ => ?_; go_simp; refine h_ _ _ ?_; clear h_ K_
  refine wpList_nil ?_
  (try simp only [Exit.then, Exit.inBlock, ↓reduceIte, Nat.reduceEqDiff])
  refine hK28 _ _ ?_
  refine wp_block ?_
  have HL36 := Aside0.mk H
  clear H
  go_loopg [5, 3] k19 (fun kq v5 v3 w' => ∃ (x29 : Int) (x30 : List (Int × Int)) (P31 : Option Addr) (q32 : Nat), v5 = .int .i64 x29 ∧ v3 = .slice P31 x30.length q32 ∧ Aside0 (impl_allPoints.l1 K a0 x10 kq x29 x30 = some (r0)) ∧ Aside0 (kq ≤ k19) ∧ Aside0 (Up w w') ∧ Aside0 (w14.heap.size ≤ w'.heap.size) ∧ Own e2 30 w' w.heap.size (.slice P31 x30.length q32) x30)
  case atStart => exact ⟨0, x11, P12, q13, (by first | rfl | simp), (by first | rfl | simp), HL36, ⟨Nat.le_refl _⟩, ⟨hu15.out⟩, ⟨Nat.le_refl _⟩, h18⟩
  case round =>
   rename_i J41 K42 hJ41 hK42
   obtain ⟨x29, x30, P31, q32, rfl, rfl, HL40, hk39, hu34, hz35, h37⟩ := hrel
   obtain ⟨w33, rfl⟩ : ∃ wo : World, wo = wr := ⟨_, rfl⟩
   obtain ⟨k38, rfl⟩ | rfl : (∃ k, gk = k + 1) ∨ gk = 0 := by rcases gk with _ | k; exact .inr rfl; exact .inl ⟨k, rfl⟩
   case inr => exact absurd HL40.out (by simp [impl_allPoints.l1])
   have H := HL40.out
   clear HL40
   rw [impl_allPoints.l1] at H
   refine wp_seq_k (fun K43 hK43 => ?_)
   refine wp_seq_k (fun K44 hK44 => ?_)
   refine wp_region_lit ?_
   refine wpp fun K_ h_ => ?_; go_simp; refine h_ _ _ ?_; clear h_ K_
   refine wpp fun K_ h_ => ?_; go_simp; refine h_ _ _ ?_; clear h_ K_
   refine wpp fun K_ h_ => ?_; go_simp; refine h_ _ _ ?_; clear h_ K_
   refine wpList_nil ?_
   (try simp only [Exit.then, Exit.inBlock, ↓reduceIte, Nat.reduceEqDiff])
   refine hK44 _ _ ?_
   by_cases c45 : (decide (x29 < a0)) = true
   rotate_left
   ·
    rw [if_neg c45] at H; replace c45 := Bool.eq_false_iff.mpr c45
    have HL62 := Aside0.mk H
    clear H
    try simp only [c45, Bool.not_true, Bool.not_false]
    refine wp_cond_false rfl ?_
    refine wp_exit ?_
    (try simp only [Exit.then, Exit.inBlock, ↓reduceIte, Nat.reduceEqDiff])
    refine hK27 _ _ ?_
    refine wp_region_lit ?_
    refine wpp fun K_ h_ => ?_; go_simp; refine h_ _ _ ?_; clear h_ K_
    refine wpp fun K_ h_ => ?_; go_simp; refine h_ _ _ ?_; clear h_ K_
    refine wpp fun K_ h_ => ?_; go_simp; refine h_ _ _ ?_; clear h_ K_
    refine wpList_nil ?_
    (try simp only [Exit.then, Exit.inBlock, ↓reduceIte, Nat.reduceEqDiff])
    refine hK23 _ _ ?_
    go_roundg k38
    case measure => have := hk20.out; have := hk39.out; omega
    case rel => exact ⟨wrap64 (x10 + 1), x30, P31, q32, (by first | rfl | simp), (by first | rfl | simp), HL62, ⟨by have := hk20.out; have := hk39.out; omega⟩, ⟨hu34.out⟩, ⟨(Nat.le_trans ((Nat.le_trans (Nat.le_refl _) hz16.out)) hz35.out)⟩, h37⟩
   rw [if_pos c45] at H
   try simp only [c45, Bool.not_true, Bool.not_false]
   refine wp_cond_true rfl ?_
   refine wp_skip ?_
   (try simp only [Exit.then, Exit.inBlock, ↓reduceIte, Nat.reduceEqDiff])
   refine hK43 _ _ ?_
   refine wp_seq_k (fun K46 hK46 => ?_)
   refine wp_block ?_
   refine wp_region_lit ?_
   refine wpp fun K_ h_ => ?_; go_simp; refine h_ _ _ ?_; clear h_ K_
   refine wpp fun K_ h_ => ?_; go_simp; refine h_ _ _ ?_; clear h_ K_
   refine wpp fun K_ h_ => ?_; go_simp; refine h_ _ _ ?_; clear h_ K_
   refine wpp fun K_ h_ => ?_; go_simp; refine h_ _ _ ?_; clear h_ K_
   refine step_new (cs := [.int .i64 x10, .int .i64 x29]) (T := 30) (f := fun b => .slice (some ⟨b, 0, none⟩) 1 1) rfl (by go_simp <;> rfl) ?_
   intro b47 w48 hu lb hb47
   simp only [Act.put, nm1, nm2, nm3, i64_w]
   have lbb47 := Aside0.mk lb
   have ltb47 := Aside0.mk hb47.lt
   clear lb
   have hu49 := Aside0.mk hu
   clear hu
   have hm51 := Aside0.mk (Nat.le_trans ((Nat.le_trans ((Nat.le_trans (hu5.out.size) hz16.out)) hz35.out)) hu49.out.size)
   by_cases c50 : (decide (x30.length ≤ 1000000)) = true
   rotate_left
   ·
    rw [if_neg c50] at H; replace c50 := Bool.eq_false_iff.mpr c50
    exact absurd H (by simp)
   rw [if_pos c50] at H
   have HL61 := Aside0.mk H
   clear H
   try simp only [c50, Bool.not_true, Bool.not_false]
   have hO0 := Aside0.mk (h37.up hu49.out)
   refine step_append e2 (z := .agg #[.int .i64 0, .int .i64 0]) (bytes := 16) (base := w.heap.size) (xs := x30) (ys := [(x10, x29)]) (wanted_none rfl) _ _ rfl rfl (by kernel_rfl) rfl (by decide) rfl rfl rfl hO0.out (Rd.of_blk (E := e2) (xs := [(x10, x29)]) (o := 0) hb47 (by simp) (fun j u hu => by rcases j with _ | _ | j <;> simp_all [Enc.flat, e2])) (hm51.out) (by have h0_ := (of_decide_eq_true (by assumption) : x30.length ≤ 1000000); (try simp only [List.length_cons, List.length_nil]); omega) ?_
   intro P52 q53 w54 h56 hg hat
   have hg57 := Aside0.mk hg
   have hat58 := Aside0.mk hat
   simp only [Act.put, nm1, nm2, nm3, i64_w]
   have lb59 := Aside0.mk hO0.out.lt
   clear hO0 hg hat
   have h60 := hb47.grow hg57.out (fun k hk => Nat.ne_of_lt (Nat.lt_of_lt_of_le ((fun k hk => Nat.lt_of_lt_of_le (h37.lt k hk).2 (Nat.le_refl _)) k hk) lbb47.out))
   refine wpp fun K_ h_ => ?_; go_simp; refine h_ _ _ ?_; clear h_ K_
   refine wpList_nil ?_
   (try simp only [Exit.then, Exit.inBlock, ↓reduceIte, Nat.reduceEqDiff])
   refine hK46 _ _ ?_
   refine wp_region_lit ?_
   refine wpp fun K_ h_ => ?_; go_simp; refine h_ _ _ ?_; clear h_ K_
   refine wpp fun K_ h_ => ?_; go_simp; refine h_ _ _ ?_; clear h_ K_
   refine wpp fun K_ h_ => ?_; go_simp; refine h_ _ _ ?_; clear h_ K_
   refine wpList_nil ?_
   (try simp only [Exit.then, Exit.inBlock, ↓reduceIte, Nat.reduceEqDiff])
   refine hK42 _ _ ?_
   go_roundg k38
   case measure => exact Nat.lt_succ_self _
   case rel => exact ⟨wrap64 (x29 + 1), (x30 ++ [(x10, x29)]), P52, q53, (by first | rfl | simp), (by first | rfl | simp), HL61, ⟨by have := hk20.out; have := hk39.out; omega⟩, ⟨((hu34.out.trans hu49.out).grow hg57.out (fun k hk => Nat.le_trans (Nat.le_refl _) ((fun k hk => (lb59.out k hk).1) k hk)))⟩, ⟨(Nat.le_trans ((Nat.le_trans ((Nat.le_trans (Nat.le_refl _) hz35.out)) hu49.out.size)) hg57.out.size)⟩, h56⟩

set_option maxHeartbeats 40000000 in
set_option maxRecDepth 100000 in
theorem impl_quadrance.calls (K : Nat) (a0 : Int) (a1 : Int) (a2_0 : Int) (a2_1 : Int) (a3_0 : Int) (a3_1 : Int) (r0 : Int) (w : World)  (h : impl_quadrance.f K a0 a1 a2_0 a2_1 a3_0 a3_1 = some (r0)) :
    Calls Try.prog 71 #[.int .i64 a0, .int .i64 a1, .agg #[.int .i64 a2_0, .int .i64 a2_1], .agg #[.int .i64 a3_0, .int .i64 a3_1]] w fun e w' => e = .returned (.int .i64 r0) ∧ Up w w' := by
 have H : (((impl_less.f K a0 a2_0 a2_1 a3_0 a3_1).bind fun (t9, t10) => ((impl_product.f K a0 a1 t9 t10 t9 t10).bind fun t21 => some t21)) : Option (Int)) = some (r0) := h
 clear h
 replace H := Option.bind_eq_some_iff.mp H
 obtain ⟨⟨t9, t10⟩, A11, H⟩ := H
 replace A11 := Aside0.mk A11
 try dsimp only at H
 replace H := Option.bind_eq_some_iff.mp H
 obtain ⟨t21, A22, H⟩ := H
 replace A22 := Aside0.mk A22
 try dsimp only at H
 obtain rfl := Option.some.inj H
 go_enter Try.func71, Try.ntmps71
 refine wp_hide (fun Qf hQf => ?_)
 refine wp_seq_k (fun K1 hK1 => ?_)
 refine wp_region_lit ?_
 refine step_new (cs := [.int .i64 a2_0, .int .i64 a2_1]) (T := 30) (f := fun b => .pointer (some ⟨b, 0, none⟩)) rfl (by go_simp <;> rfl) ?_
 intro b2 w3 hu lb hb2
 simp only [Act.put, nm1, nm2, nm3, i64_w]
 have lbb2 := Aside0.mk lb
 have ltb2 := Aside0.mk hb2.lt
 clear lb
 have hu4 := Aside0.mk hu
 clear hu
 refine step_new (cs := [.int .i64 a3_0, .int .i64 a3_1]) (T := 30) (f := fun b => .pointer (some ⟨b, 0, none⟩)) rfl (by go_simp <;> rfl) ?_
 intro b5 w6 hu lb hb5
 simp only [Act.put, nm1, nm2, nm3, i64_w]
 have lbb5 := Aside0.mk lb
 have ltb5 := Aside0.mk hb5.lt
 clear lb
 have hu7 := Aside0.mk hu
 clear hu
 refine wpp fun K_ h_ => ?_; go_simp; refine h_ _ _ ?_; clear h_ K_
 refine wpList_nil ?_
 (try simp only [Exit.then, Exit.inBlock, ↓reduceIte, Nat.reduceEqDiff])
 refine hK1 _ _ ?_
 refine wp_seq_k (fun K8 hK8 => ?_)
 refine wp_region_lit ?_
 refine wpp fun K_ h_ => ?_; go_simp; refine h_ _ _ ?_; clear h_ K_
 have cl0 := (hb2.up hu7.out).cell (o := 0) rfl
 have cl1 := (hb2.up hu7.out).cell (o := 1) rfl
 refine wpp fun K_ h_ => ?_; go_simp; refine h_ _ _ ?_; clear h_ K_
 clear cl0 cl1
 have cl0 := hb5.cell (o := 0) rfl
 have cl1 := hb5.cell (o := 1) rfl
 refine wpp fun K_ h_ => ?_; go_simp; refine h_ _ _ ?_; clear h_ K_
 clear cl0 cl1
 refine step_call (wanted_none rfl) (by go_simp <;> rfl) (impl_less.calls K a0 a2_0 a2_1 a3_0 a3_1 t9 t10 w6  A11.out) ?_
 rintro e w12 ⟨rfl, hu⟩
 have hu13 := Aside0.mk hu
 clear hu
 refine ⟨_, rfl, ?_⟩
 simp only [Act.put, nm1, nm2, nm3, i64_w]
 refine step_new (cs := [.int .i64 0, .int .i64 0]) (T := 30) (f := fun b => .pointer (some ⟨b, 0, none⟩)) rfl (by go_simp <;> rfl) ?_
 intro b14 w15 hu lb hb14
 simp only [Act.put, nm1, nm2, nm3, i64_w]
 have lbb14 := Aside0.mk lb
 have ltb14 := Aside0.mk hb14.lt
 clear lb
 have hu16 := Aside0.mk hu
 clear hu
 have hB0 := hb14
 have cl0 := hB0.cell (o := 0) rfl
 have fr0 := hB0.free 0
 have cl1 := hB0.cell (o := 1) rfl
 have fr1 := hB0.free 1
 refine step_store (b := b14) (cs' := [.int .i64 t9, .int .i64 t10]) (T := 30) (W' := ((w15.setCell ⟨b14, 0, none⟩ (.int .i64 t9)).setCell ⟨b14, 1, none⟩ (.int .i64 t10))) rfl rfl (by go_simp <;> rfl) (((Sto.refl _ _).setCell 0 _).setCell 1 _) (((hB0).setCell 0 _).setCell 1 _) ?_
 clear hB0 cl0 fr0 cl1 fr1
 intro w17 hs hb19
 have hs18 := Aside0.mk hs
 clear hs
 refine wpList_nil ?_
 (try simp only [Exit.then, Exit.inBlock, ↓reduceIte, Nat.reduceEqDiff])
 refine hK8 _ _ ?_
 refine wp_seq_k (fun K20 hK20 => ?_)
 refine wp_region_lit ?_
 refine wpp fun K_ h_ => ?_; go_simp; refine h_ _ _ ?_; clear h_ K_
 refine wpp fun K_ h_ => ?_; go_simp; refine h_ _ _ ?_; clear h_ K_
 have cl0 := hb19.cell (o := 0) rfl
 have cl1 := hb19.cell (o := 1) rfl
 refine wpp fun K_ h_ => ?_; go_simp; refine h_ _ _ ?_; clear h_ K_
 clear cl0 cl1
 have cl0 := hb19.cell (o := 0) rfl
 have cl1 := hb19.cell (o := 1) rfl
 refine wpp fun K_ h_ => ?_; go_simp; refine h_ _ _ ?_; clear h_ K_
 clear cl0 cl1
 refine step_call (wanted_none rfl) (by go_simp <;> rfl) (impl_product.calls K a0 a1 t9 t10 t9 t10 t21 w17  A22.out) ?_
 rintro e w23 ⟨rfl, hu⟩
 have hu24 := Aside0.mk hu
 clear hu
 refine ⟨_, rfl, ?_⟩
 simp only [Act.put, nm1, nm2, nm3, i64_w]
 refine wpp fun K_ h_ => ?_; go_simp; refine h_ _ _ ?_; clear h_ K_
 refine wpList_nil ?_
 (try simp only [Exit.then, Exit.inBlock, ↓reduceIte, Nat.reduceEqDiff])
 refine hK20 _ _ ?_
 refine wp_ret ?_
 (try simp only [Exit.then, Exit.inBlock, ↓reduceIte, Nat.reduceEqDiff])
 refine hQf _ _ _ ?_
 exact bodyPost_ret (v := .int .i64 t21) (by first | rfl | (simp [results, Try.results71, go_sem]; done) | (simp [results, Try.results71, go_sem]; rfl)) rfl ⟨rfl, (((((hu4.out.trans hu7.out).trans hu13.out).trans hu16.out).sto (Nat.le_trans ((Nat.le_trans ((Nat.le_trans (hu4.out.size) hu7.out.size)) hu13.out.size)) lbb14.out) hs18.out).trans hu24.out)⟩

set_option maxHeartbeats 40000000 in
set_option maxRecDepth 100000 in
theorem impl_circumcentre.calls (K : Nat) (a0 : Int) (a1 : Int) (a2_0 : Int) (a2_1 : Int) (a3_0 : Int) (a3_1 : Int) (a4_0 : Int) (a4_1 : Int) (r0 : Int) (r1 : Int) (w : World)  (h : impl_circumcentre.f K a0 a1 a2_0 a2_1 a3_0 a3_1 a4_0 a4_1 = some (r0, r1)) :
    Calls Try.prog 121 #[.int .i64 a0, .int .i64 a1, .agg #[.int .i64 a2_0, .int .i64 a2_1], .agg #[.int .i64 a3_0, .int .i64 a3_1], .agg #[.int .i64 a4_0, .int .i64 a4_1]] w fun e w' => e = .returned (.agg #[.int .i64 r0, .int .i64 r1]) ∧ Up w w' := by
 have H : (((impl_allPoints.f K a0).bind fun t16 => (impl_circumcentre.l0 K a0 a1 a2_0 a2_1 a3_0 a3_1 a4_0 a4_1 t16 K 0 0 0)) : Option (Int × Int)) = some (r0, r1) := h
 clear h
 replace H := Option.bind_eq_some_iff.mp H
 obtain ⟨t16, A19, H⟩ := H
 replace A19 := Aside0.mk A19
 try dsimp only at H
 go_enter Try.func121, Try.ntmps121
 refine wp_hide (fun Qf hQf => ?_)
 refine wp_seq_k (fun K1 hK1 => ?_)
 refine wp_region_lit ?_
 refine step_new (cs := [.int .i64 a2_0, .int .i64 a2_1]) (T := 30) (f := fun b => .pointer (some ⟨b, 0, none⟩)) rfl (by go_simp <;> rfl) ?_
 intro b2 w3 hu lb hb2
 simp only [Act.put, nm1, nm2, nm3, i64_w]
 have lbb2 := Aside0.mk lb
 have ltb2 := Aside0.mk hb2.lt
 clear lb
 have hu4 := Aside0.mk hu
 clear hu
 refine step_new (cs := [.int .i64 a3_0, .int .i64 a3_1]) (T := 30) (f := fun b => .pointer (some ⟨b, 0, none⟩)) rfl (by go_simp <;> rfl) ?_
 intro b5 w6 hu lb hb5
 simp only [Act.put, nm1, nm2, nm3, i64_w]
 have lbb5 := Aside0.mk lb
 have ltb5 := Aside0.mk hb5.lt
 clear lb
 have hu7 := Aside0.mk hu
 clear hu
 refine step_new (cs := [.int .i64 a4_0, .int .i64 a4_1]) (T := 30) (f := fun b => .pointer (some ⟨b, 0, none⟩)) rfl (by go_simp <;> rfl) ?_
 intro b8 w9 hu lb hb8
 simp only [Act.put, nm1, nm2, nm3, i64_w]
 have lbb8 := Aside0.mk lb
 have ltb8 := Aside0.mk hb8.lt
 clear lb
 have hu10 := Aside0.mk hu
 clear hu
 refine step_new (cs := [.int .i64 0, .int .i64 0]) (T := 30) (f := fun b => .pointer (some ⟨b, 0, none⟩)) rfl (by go_simp <;> rfl) ?_
 intro b11 w12 hu lb hb11
 simp only [Act.put, nm1, nm2, nm3, i64_w]
 have lbb11 := Aside0.mk lb
 have ltb11 := Aside0.mk hb11.lt
 clear lb
 have hu13 := Aside0.mk hu
 clear hu
 refine wpList_nil ?_
 (try simp only [Exit.then, Exit.inBlock, ↓reduceIte, Nat.reduceEqDiff])
 refine hK1 _ _ ?_
 refine wp_seq_k (fun K14 hK14 => ?_)
 refine wp_seq_k (fun K15 hK15 => ?_)
 refine wp_region_lit ?_
 refine wpp fun K_ h_ => ?_; go_simp; refine h_ _ _ ?_; clear h_ K_
 refine step_call (wanted_none rfl) (by go_simp <;> rfl) (impl_allPoints.calls K a0 t16 w12  A19.out) ?_
 rintro e w20 ⟨P17, q18, rfl, ht16, hu⟩
 have hu21 := Aside0.mk hu
 clear hu
 refine ⟨_, rfl, ?_⟩
 simp only [Act.put, nm1, nm2, nm3, i64_w]
 refine wpp fun K_ h_ => ?_; go_simp; refine h_ _ _ ?_; clear h_ K_
 refine wpp fun K_ h_ => ?_; go_simp; refine h_ _ _ ?_; clear h_ K_
 refine wpList_nil ?_
 (try simp only [Exit.then, Exit.inBlock, ↓reduceIte, Nat.reduceEqDiff])
 refine hK15 _ _ ?_
 refine wp_block ?_
 have HL28 := Aside0.mk H
 clear H
 go_loopg [17] K (fun kq v17 w' => ∃ (x22 : Int) (x23 : Int) (x24 : Int), v17 = .int .i64 x22 ∧ Aside0 (impl_circumcentre.l0 K a0 a1 a2_0 a2_1 a3_0 a3_1 a4_0 a4_1 t16 kq x22 x23 x24 = some (r0, r1)) ∧ Aside0 (kq ≤ K) ∧ Aside0 (Up w9 w') ∧ Aside0 (w20.heap.size ≤ w'.heap.size) ∧ Blk w' b11 [.int .i64 x23, .int .i64 x24] 30 ∧ Own e2 30 w' w12.heap.size (.slice P17 t16.length q18) t16)
 case atStart => exact ⟨0, 0, 0, (by first | rfl | simp), HL28, ⟨Nat.le_refl _⟩, ⟨(hu13.out.trans hu21.out)⟩, ⟨Nat.le_refl _⟩, (hb11.up hu21.out), ht16⟩
 case round =>
  rename_i J34 K35 hJ34 hK35
  obtain ⟨x22, x23, x24, rfl, HL33, hk32, hu26, hz27, h29, h30⟩ := hrel
  obtain ⟨w25, rfl⟩ : ∃ wo : World, wo = wr := ⟨_, rfl⟩
  obtain ⟨k31, rfl⟩ | rfl : (∃ k, gk = k + 1) ∨ gk = 0 := by rcases gk with _ | k; exact .inr rfl; exact .inl ⟨k, rfl⟩
  case inr => exact absurd HL33.out (by simp [impl_circumcentre.l0])
  have H := HL33.out
  clear HL33
  rw [impl_circumcentre.l0] at H
  refine wp_seq_k (fun K36 hK36 => ?_)
  refine wp_region_lit ?_
  refine wpp fun K_ h_ => ?_; go_simp; refine h_ _ _ ?_; clear h_ K_
  refine wpList_nil ?_
  (try simp only [Exit.then, Exit.inBlock, ↓reduceIte, Nat.reduceEqDiff])
  refine hK36 _ _ ?_
  refine wp_seq_k (fun K37 hK37 => ?_)
  have hm39 := Aside0.mk (Nat.le_trans ((Nat.le_trans ((Nat.le_trans ((Nat.le_trans ((Nat.le_trans (hu4.out.size) hu7.out.size)) hu10.out.size)) hu13.out.size)) hu21.out.size)) hz27.out)
  by_cases c38 : (decide (x22 < (t16.length : Int))) = true
  rotate_left
  ·
   rw [if_neg c38] at H; replace c38 := Bool.eq_false_iff.mpr c38
   simp only [Option.some.injEq, Prod.mk.injEq] at H
   obtain ⟨rfl, rfl⟩ := H
   try simp only [c38, Bool.not_true, Bool.not_false]
   refine wp_cond_false rfl ?_
   refine wp_exit ?_
   (try simp only [Exit.then, Exit.inBlock, ↓reduceIte, Nat.reduceEqDiff])
   refine hK14 _ _ ?_
   refine wp_seq_k (fun K88 hK88 => ?_)
   refine wp_region_lit ?_
   refine wpp fun K_ h_ => ?_; go_simp; refine h_ _ _ ?_; clear h_ K_
   have hB0 := h29
   have cl0 := hB0.cell (o := 0) rfl
   have fr0 := hB0.free 0
   have cl1 := hB0.cell (o := 1) rfl
   have fr1 := hB0.free 1
   refine step_store (b := b11) (cs' := [.int .i64 0, .int .i64 0]) (T := 30) (W' := ((w25.setCell ⟨b11, 0, none⟩ (.int .i64 0)).setCell ⟨b11, 1, none⟩ (.int .i64 0))) rfl rfl (by go_simp <;> rfl) (((Sto.refl _ _).setCell 0 _).setCell 1 _) (((hB0).setCell 0 _).setCell 1 _) ?_
   clear hB0 cl0 fr0 cl1 fr1
   intro w89 hs hb91
   have hs90 := Aside0.mk hs
   clear hs
   have h92 := h30.sto hs90.out (fun k hk => Ne.symm ((fun k hk => Nat.ne_of_lt (Nat.lt_of_lt_of_le ltb11.out ((fun k hk => Nat.le_trans (Nat.le_refl _) (ht16.lt k hk).1) k hk))) k hk))
   refine wpList_nil ?_
   (try simp only [Exit.then, Exit.inBlock, ↓reduceIte, Nat.reduceEqDiff])
   refine hK88 _ _ ?_
   refine wp_ret ?_
   (try simp only [Exit.then, Exit.inBlock, ↓reduceIte, Nat.reduceEqDiff])
   refine hQf _ _ _ ?_
   have cr0 := hb91.cell (o := 0) rfl
   have cr1 := hb91.cell (o := 1) rfl
   exact bodyPost_ret (v := .agg #[.int .i64 0, .int .i64 0]) (by first | rfl | (simp [results, Try.results121, go_sem, cr0, cr1]; done) | (simp [results, Try.results121, go_sem, cr0, cr1]; rfl)) rfl ⟨rfl, ((((hu4.out.trans hu7.out).trans hu10.out).trans hu26.out).sto (Nat.le_trans ((Nat.le_trans ((Nat.le_trans (hu4.out.size) hu7.out.size)) hu10.out.size)) lbb11.out) hs90.out)⟩
  rw [if_pos c38] at H
  replace H := Option.bind_eq_some_iff.mp H
  obtain ⟨⟨t42, t43⟩, A44, H⟩ := H
  replace A44 := Aside0.mk A44
  try dsimp only at H
  replace H := Option.bind_eq_some_iff.mp H
  obtain ⟨t55, A56, H⟩ := H
  replace A56 := Aside0.mk A56
  try dsimp only at H
  replace H := Option.bind_eq_some_iff.mp H
  obtain ⟨t60, A61, H⟩ := H
  replace A61 := Aside0.mk A61
  try dsimp only at H
  try simp only [c38, Bool.not_true, Bool.not_false]
  refine wp_cond_true rfl ?_
  refine wp_skip ?_
  (try simp only [Exit.then, Exit.inBlock, ↓reduceIte, Nat.reduceEqDiff])
  refine hK37 _ _ ?_
  refine wp_seq_k (fun K40 hK40 => ?_)
  refine wp_block ?_
  refine wp_seq_k (fun K41 hK41 => ?_)
  refine wp_region_lit ?_
  refine step_index e2 (T := 30) (wanted_none rfl) rfl (by kernel_rfl) (by kernel_rfl) rfl rfl rfl h30.rd A44.out ?_
  intro ad45 hat he
  have he46 := Aside0.mk he
  have hat47 := Aside0.mk hat
  clear he hat
  simp only [Act.put, nm1, nm2, nm3, i64_w]
  have cl0 := he46.out 0 _ rfl
  rw [addr_add0] at cl0
  have cl1 : World.cell? _ ⟨ad45.block, ad45.off + 1, none⟩ = some _ := he46.out 1 _ rfl
  refine wpp fun K_ h_ => ?_; go_simp; refine h_ _ _ ?_; clear h_ K_
  clear cl0 cl1
  refine step_new (cs := [.int .i64 0, .int .i64 0]) (T := 30) (f := fun b => .pointer (some ⟨b, 0, none⟩)) rfl (by go_simp <;> rfl) ?_
  intro b48 w49 hu lb hb48
  simp only [Act.put, nm1, nm2, nm3, i64_w]
  have lbb48 := Aside0.mk lb
  have ltb48 := Aside0.mk hb48.lt
  clear lb
  have hu50 := Aside0.mk hu
  clear hu
  have hB0 := hb48
  have cl0 := hB0.cell (o := 0) rfl
  have fr0 := hB0.free 0
  have cl1 := hB0.cell (o := 1) rfl
  have fr1 := hB0.free 1
  refine step_store (b := b48) (cs' := [.int .i64 t42, .int .i64 t43]) (T := 30) (W' := ((w49.setCell ⟨b48, 0, none⟩ (.int .i64 t42)).setCell ⟨b48, 1, none⟩ (.int .i64 t43))) rfl rfl (by go_simp <;> rfl) (((Sto.refl _ _).setCell 0 _).setCell 1 _) (((hB0).setCell 0 _).setCell 1 _) ?_
  clear hB0 cl0 fr0 cl1 fr1
  intro w51 hs hb53
  have hs52 := Aside0.mk hs
  clear hs
  refine wpList_nil ?_
  (try simp only [Exit.then, Exit.inBlock, ↓reduceIte, Nat.reduceEqDiff])
  refine hK41 _ _ ?_
  refine wp_seq_k (fun K54 hK54 => ?_)
  refine wp_region_lit ?_
  refine wpp fun K_ h_ => ?_; go_simp; refine h_ _ _ ?_; clear h_ K_
  refine wpp fun K_ h_ => ?_; go_simp; refine h_ _ _ ?_; clear h_ K_
  have cl0 := hb53.cell (o := 0) rfl
  have cl1 := hb53.cell (o := 1) rfl
  refine wpp fun K_ h_ => ?_; go_simp; refine h_ _ _ ?_; clear h_ K_
  clear cl0 cl1
  have cl0 := (hb2.up ((((hu7.out.trans hu10.out).trans hu26.out).trans hu50.out).sto (Nat.le_trans ((Nat.le_trans ((Nat.le_trans ((Nat.le_trans ((Nat.le_trans (hu7.out.size) hu10.out.size)) hu13.out.size)) hu21.out.size)) hz27.out)) lbb48.out) hs52.out)).cell (o := 0) rfl
  have cl1 := (hb2.up ((((hu7.out.trans hu10.out).trans hu26.out).trans hu50.out).sto (Nat.le_trans ((Nat.le_trans ((Nat.le_trans ((Nat.le_trans ((Nat.le_trans (hu7.out.size) hu10.out.size)) hu13.out.size)) hu21.out.size)) hz27.out)) lbb48.out) hs52.out)).cell (o := 1) rfl
  refine wpp fun K_ h_ => ?_; go_simp; refine h_ _ _ ?_; clear h_ K_
  clear cl0 cl1
  refine step_call (wanted_none rfl) (by go_simp <;> rfl) (impl_quadrance.calls K a0 a1 t42 t43 a2_0 a2_1 t55 w51  A56.out) ?_
  rintro e w57 ⟨rfl, hu⟩
  have hu58 := Aside0.mk hu
  clear hu
  refine ⟨_, rfl, ?_⟩
  simp only [Act.put, nm1, nm2, nm3, i64_w]
  refine wpp fun K_ h_ => ?_; go_simp; refine h_ _ _ ?_; clear h_ K_
  refine wpList_nil ?_
  (try simp only [Exit.then, Exit.inBlock, ↓reduceIte, Nat.reduceEqDiff])
  refine hK54 _ _ ?_
  refine wp_seq_k (fun K59 hK59 => ?_)
  refine wp_region_lit ?_
  refine wpp fun K_ h_ => ?_; go_simp; refine h_ _ _ ?_; clear h_ K_
  refine wpp fun K_ h_ => ?_; go_simp; refine h_ _ _ ?_; clear h_ K_
  refine wpp fun K_ h_ => ?_; go_simp; refine h_ _ _ ?_; clear h_ K_
  have cl0 := (hb53.up hu58.out).cell (o := 0) rfl
  have cl1 := (hb53.up hu58.out).cell (o := 1) rfl
  refine wpp fun K_ h_ => ?_; go_simp; refine h_ _ _ ?_; clear h_ K_
  clear cl0 cl1
  have cl0 := (hb5.up ((((hu10.out.trans hu26.out).trans hu50.out).sto (Nat.le_trans ((Nat.le_trans ((Nat.le_trans ((Nat.le_trans (hu10.out.size) hu13.out.size)) hu21.out.size)) hz27.out)) lbb48.out) hs52.out).trans hu58.out)).cell (o := 0) rfl
  have cl1 := (hb5.up ((((hu10.out.trans hu26.out).trans hu50.out).sto (Nat.le_trans ((Nat.le_trans ((Nat.le_trans ((Nat.le_trans (hu10.out.size) hu13.out.size)) hu21.out.size)) hz27.out)) lbb48.out) hs52.out).trans hu58.out)).cell (o := 1) rfl
  refine wpp fun K_ h_ => ?_; go_simp; refine h_ _ _ ?_; clear h_ K_
  clear cl0 cl1
  refine step_call (wanted_none rfl) (by go_simp <;> rfl) (impl_quadrance.calls K a0 a1 t42 t43 a3_0 a3_1 t60 w57  A61.out) ?_
  rintro e w62 ⟨rfl, hu⟩
  have hu63 := Aside0.mk hu
  clear hu
  refine ⟨_, rfl, ?_⟩
  simp only [Act.put, nm1, nm2, nm3, i64_w]
  refine wpp fun K_ h_ => ?_; go_simp; refine h_ _ _ ?_; clear h_ K_
  refine wpp fun K_ h_ => ?_; go_simp; refine h_ _ _ ?_; clear h_ K_
  have hm65 := Aside0.mk (((((((hu4.out.trans hu7.out).trans hu10.out).trans hu26.out).trans hu50.out).sto (Nat.le_trans (hm39.out) lbb48.out) hs52.out).trans hu58.out).trans hu63.out)
  have hm66 := Aside0.mk (Nat.le_trans ((Nat.le_trans ((Nat.le_trans ((Nat.le_trans (hm39.out) hu50.out.size)) (Nat.le_of_eq hs52.out.size.symm))) hu58.out.size)) hu63.out.size)
  have hm67 := Aside0.mk ((((hu26.out.trans hu50.out).sto (Nat.le_trans ((Nat.le_trans ((Nat.le_trans (hu13.out.size) hu21.out.size)) hz27.out)) lbb48.out) hs52.out).trans hu58.out).trans hu63.out)
  have hm68 := Aside0.mk (Nat.le_trans ((Nat.le_trans ((Nat.le_trans ((Nat.le_trans ((Nat.le_trans ((Nat.le_trans (hu13.out.size) hu21.out.size)) hz27.out)) hu50.out.size)) (Nat.le_of_eq hs52.out.size.symm))) hu58.out.size)) hu63.out.size)
  have hm69 := Aside0.mk (Nat.le_trans ((Nat.le_trans ((Nat.le_trans ((Nat.le_trans ((Nat.le_trans (Nat.le_refl _) hz27.out)) hu50.out.size)) (Nat.le_of_eq hs52.out.size.symm))) hu58.out.size)) hu63.out.size)
  have h70 := (hb2.up ((((((hu7.out.trans hu10.out).trans hu26.out).trans hu50.out).sto (Nat.le_trans ((Nat.le_trans ((Nat.le_trans ((Nat.le_trans ((Nat.le_trans (hu7.out.size) hu10.out.size)) hu13.out.size)) hu21.out.size)) hz27.out)) lbb48.out) hs52.out).trans hu58.out).trans hu63.out))
  have h71 := (hb5.up (((((hu10.out.trans hu26.out).trans hu50.out).sto (Nat.le_trans ((Nat.le_trans ((Nat.le_trans ((Nat.le_trans (hu10.out.size) hu13.out.size)) hu21.out.size)) hz27.out)) lbb48.out) hs52.out).trans hu58.out).trans hu63.out))
  have h72 := (h29.up (((hu50.out.sto (Nat.le_trans (Nat.le_refl _) lbb48.out) hs52.out).trans hu58.out).trans hu63.out))
  by_cases c64 : (t55 == t60) = true
  rotate_left
  ·
   rw [if_neg c64] at H; replace c64 := Bool.eq_false_iff.mpr c64
   have c64n : (t55 != t60) = true := by rw [bne, c64]; rfl
   have c64p : ¬ t55 = t60 := fun e => by simp [e] at c64
   have HL87 := Aside0.mk H
   clear H
   try simp only [c64, c64n, Bool.not_true, Bool.not_false]
   refine step_no rfl ?_
   simp only [Act.put, nm1, nm2, nm3, i64_w]
   refine step_no rfl ?_
   simp only [Act.put, nm1, nm2, nm3, i64_w]
   refine step_no rfl ?_
   simp only [Act.put, nm1, nm2, nm3, i64_w]
   refine step_no rfl ?_
   simp only [Act.put, nm1, nm2, nm3, i64_w]
   refine step_no rfl ?_
   simp only [Act.put, nm1, nm2, nm3, i64_w]
   refine step_no rfl ?_
   simp only [Act.put, nm1, nm2, nm3, i64_w]
   refine step_no rfl ?_
   simp only [Act.put, nm1, nm2, nm3, i64_w]
   refine wpp fun K_ h_ => ?_; go_simp; refine h_ _ _ ?_; clear h_ K_
   refine wpList_nil ?_
   (try simp only [Exit.then, Exit.inBlock, ↓reduceIte, Nat.reduceEqDiff])
   refine hK59 _ _ ?_
   refine wp_cond_false rfl ?_
   refine wp_skip ?_
   (try simp only [Exit.then, Exit.inBlock, ↓reduceIte, Nat.reduceEqDiff])
   refine hK40 _ _ ?_
   refine wp_region_lit ?_
   refine wpp fun K_ h_ => ?_; go_simp; refine h_ _ _ ?_; clear h_ K_
   refine wpp fun K_ h_ => ?_; go_simp; refine h_ _ _ ?_; clear h_ K_
   refine wpList_nil ?_
   (try simp only [Exit.then, Exit.inBlock, ↓reduceIte, Nat.reduceEqDiff])
   refine hK35 _ _ ?_
   go_roundg k31
   case measure => exact Nat.lt_succ_self _
   case rel => exact ⟨wrap64 (x22 + 1), x23, x24, (by first | rfl | simp), HL87, ⟨by have := hk32.out; omega⟩, ⟨hm67.out⟩, ⟨hm69.out⟩, h72, (h30.up (((hu50.out.sto (Nat.le_trans (Nat.le_refl _) lbb48.out) hs52.out).trans hu58.out).trans hu63.out))⟩
  rw [if_pos c64] at H
  have c64n : (t55 != t60) = false := by rw [bne, c64]; rfl
  replace H := Option.bind_eq_some_iff.mp H
  obtain ⟨t73, A74, H⟩ := H
  replace A74 := Aside0.mk A74
  try dsimp only at H
  try simp only [c64, c64n, Bool.not_true, Bool.not_false]
  refine wpList_step fun K_ h_ => ?_; go_simp; refine h_ _ _ ?_; clear h_ K_
  refine wpList_step fun K_ h_ => ?_; go_simp; refine h_ _ _ ?_; clear h_ K_
  refine wpList_step fun K_ h_ => ?_; go_simp; refine h_ _ _ ?_; clear h_ K_
  have cl0 := (hb53.up (hu58.out.trans hu63.out)).cell (o := 0) rfl
  have cl1 := (hb53.up (hu58.out.trans hu63.out)).cell (o := 1) rfl
  refine wpList_step fun K_ h_ => ?_; go_simp; refine h_ _ _ ?_; clear h_ K_
  clear cl0 cl1
  have cl0 := (hb8.up hm67.out).cell (o := 0) rfl
  have cl1 := (hb8.up hm67.out).cell (o := 1) rfl
  refine wpList_step fun K_ h_ => ?_; go_simp; refine h_ _ _ ?_; clear h_ K_
  clear cl0 cl1
  refine step_call rfl (by go_simp <;> rfl) (impl_quadrance.calls K a0 a1 t42 t43 a4_0 a4_1 t73 w62  A74.out) ?_
  rintro e w75 ⟨rfl, hu⟩
  have hu76 := Aside0.mk hu
  clear hu
  refine ⟨_, rfl, ?_⟩
  simp only [Act.put, nm1, nm2, nm3, i64_w]
  refine wpList_step fun K_ h_ => ?_; go_simp; refine h_ _ _ ?_; clear h_ K_
  refine wpp fun K_ h_ => ?_; go_simp; refine h_ _ _ ?_; clear h_ K_
  refine wpList_nil ?_
  (try simp only [Exit.then, Exit.inBlock, ↓reduceIte, Nat.reduceEqDiff])
  refine hK59 _ _ ?_
  by_cases c77 : (t55 == t73) = true
  rotate_left
  ·
   rw [if_neg c77] at H; replace c77 := Bool.eq_false_iff.mpr c77
   have c77n : (t55 != t73) = true := by rw [bne, c77]; rfl
   have c77p : ¬ t55 = t73 := fun e => by simp [e] at c77
   have HL86 := Aside0.mk H
   clear H
   try simp only [c77, c77n, Bool.not_true, Bool.not_false]
   refine wp_cond_false rfl ?_
   refine wp_skip ?_
   (try simp only [Exit.then, Exit.inBlock, ↓reduceIte, Nat.reduceEqDiff])
   refine hK40 _ _ ?_
   refine wp_region_lit ?_
   refine wpp fun K_ h_ => ?_; go_simp; refine h_ _ _ ?_; clear h_ K_
   refine wpp fun K_ h_ => ?_; go_simp; refine h_ _ _ ?_; clear h_ K_
   refine wpList_nil ?_
   (try simp only [Exit.then, Exit.inBlock, ↓reduceIte, Nat.reduceEqDiff])
   refine hK35 _ _ ?_
   go_roundg k31
   case measure => exact Nat.lt_succ_self _
   case rel => exact ⟨wrap64 (x22 + 1), x23, x24, (by first | rfl | simp), HL86, ⟨by have := hk32.out; omega⟩, ⟨(hm67.out.trans hu76.out)⟩, ⟨(Nat.le_trans (hm69.out) hu76.out.size)⟩, (h72.up hu76.out), (h30.up ((((hu50.out.sto (Nat.le_trans (Nat.le_refl _) lbb48.out) hs52.out).trans hu58.out).trans hu63.out).trans hu76.out))⟩
  rw [if_pos c77] at H
  have c77n : (t55 != t73) = false := by rw [bne, c77]; rfl
  simp only [Option.some.injEq, Prod.mk.injEq] at H
  obtain ⟨rfl, rfl⟩ := H
  try simp only [c77, c77n, Bool.not_true, Bool.not_false]
  refine wp_cond_true rfl ?_
  refine wp_seq_k (fun K78 hK78 => ?_)
  refine wp_region_lit ?_
  have cl0 := (hb53.up ((hu58.out.trans hu63.out).trans hu76.out)).cell (o := 0) rfl
  have cl1 := (hb53.up ((hu58.out.trans hu63.out).trans hu76.out)).cell (o := 1) rfl
  refine wpp fun K_ h_ => ?_; go_simp; refine h_ _ _ ?_; clear h_ K_
  clear cl0 cl1
  have hB0 := (h72.up hu76.out)
  have cl0 := hB0.cell (o := 0) rfl
  have fr0 := hB0.free 0
  have cl1 := hB0.cell (o := 1) rfl
  have fr1 := hB0.free 1
  refine step_store (b := b11) (cs' := [.int .i64 t42, .int .i64 t43]) (T := 30) (W' := ((w75.setCell ⟨b11, 0, none⟩ (.int .i64 t42)).setCell ⟨b11, 1, none⟩ (.int .i64 t43))) rfl rfl (by go_simp <;> rfl) (((Sto.refl _ _).setCell 0 _).setCell 1 _) (((hB0).setCell 0 _).setCell 1 _) ?_
  clear hB0 cl0 fr0 cl1 fr1
  intro w79 hs hb81
  have hs80 := Aside0.mk hs
  clear hs
  have h82 := (h70.up hu76.out).sto hs80.out (Nat.ne_of_lt (Nat.lt_of_lt_of_le (Nat.lt_of_lt_of_le ltb2.out ((Nat.le_trans (hu7.out.size) hu10.out.size))) lbb11.out))
  have h83 := (h71.up hu76.out).sto hs80.out (Nat.ne_of_lt (Nat.lt_of_lt_of_le (Nat.lt_of_lt_of_le ltb5.out (hu10.out.size)) lbb11.out))
  have h84 := (h30.up ((((hu50.out.sto (Nat.le_trans (Nat.le_refl _) lbb48.out) hs52.out).trans hu58.out).trans hu63.out).trans hu76.out)).sto hs80.out (fun k hk => Ne.symm ((fun k hk => Nat.ne_of_lt (Nat.lt_of_lt_of_le ltb11.out ((fun k hk => Nat.le_trans (Nat.le_refl _) (ht16.lt k hk).1) k hk))) k hk))
  have h85 := (hb53.up ((hu58.out.trans hu63.out).trans hu76.out)).sto hs80.out (Ne.symm (Nat.ne_of_lt (Nat.lt_of_lt_of_le (Nat.lt_of_lt_of_le ltb11.out ((Nat.le_trans (hu21.out.size) hz27.out))) lbb48.out)))
  refine wpList_nil ?_
  (try simp only [Exit.then, Exit.inBlock, ↓reduceIte, Nat.reduceEqDiff])
  refine hK78 _ _ ?_
  refine wp_ret ?_
  (try simp only [Exit.then, Exit.inBlock, ↓reduceIte, Nat.reduceEqDiff])
  refine hQf _ _ _ ?_
  have cr0 := hb81.cell (o := 0) rfl
  have cr1 := hb81.cell (o := 1) rfl
  exact bodyPost_ret (v := .agg #[.int .i64 t42, .int .i64 t43]) (by first | rfl | (simp [results, Try.results121, go_sem, cr0, cr1]; done) | (simp [results, Try.results121, go_sem, cr0, cr1]; rfl)) rfl ⟨rfl, ((hm65.out.trans hu76.out).sto (Nat.le_trans ((Nat.le_trans ((Nat.le_trans (hu4.out.size) hu7.out.size)) hu10.out.size)) lbb11.out) hs80.out)⟩

set_option maxHeartbeats 40000000 in
set_option maxRecDepth 100000 in
theorem impl_CircumcentreOf.calls (K : Nat) (a0 : Int) (a1 : Int) (a2_0 : Int) (a2_1 : Int) (a3_0 : Int) (a3_1 : Int) (a4_0 : Int) (a4_1 : Int) (r0 : Int) (r1 : Int) (r2 : Int) (w : World)  (h : impl_CircumcentreOf.f K a0 a1 a2_0 a2_1 a3_0 a3_1 a4_0 a4_1 = some (r0, r1, r2)) :
    Calls Try.prog 37 #[.int .i64 a0, .int .i64 a1, .agg #[.int .i64 a2_0, .int .i64 a2_1], .agg #[.int .i64 a3_0, .int .i64 a3_1], .agg #[.int .i64 a4_0, .int .i64 a4_1]] w fun e w' => e = .returned (.tuple #[.agg #[.int .i64 r0, .int .i64 r1], .int .i64 r2]) ∧ Up w w' := by
 have H : (((impl_triangle.f K a0 a1 a2_0 a2_1 a3_0 a3_1 a4_0 a4_1).bind fun t16 => (if (t16 == 0) = true then ((impl_circumcentre.f K a0 a1 a2_0 a2_1 a3_0 a3_1 a4_0 a4_1).bind fun (t25, t26) => some (t25, t26, 0)) else some (0, 0, t16))) : Option (Int × Int × Int)) = some (r0, r1, r2) := h
 clear h
 replace H := Option.bind_eq_some_iff.mp H
 obtain ⟨t16, A17, H⟩ := H
 replace A17 := Aside0.mk A17
 try dsimp only at H
 go_enter Try.func37, Try.ntmps37
 refine wp_hide (fun Qf hQf => ?_)
 refine wp_seq_k (fun K1 hK1 => ?_)
 refine wp_region_lit ?_
 refine step_new (cs := [.int .i64 a2_0, .int .i64 a2_1]) (T := 30) (f := fun b => .pointer (some ⟨b, 0, none⟩)) rfl (by go_simp <;> rfl) ?_
 intro b2 w3 hu lb hb2
 simp only [Act.put, nm1, nm2, nm3, i64_w]
 have lbb2 := Aside0.mk lb
 have ltb2 := Aside0.mk hb2.lt
 clear lb
 have hu4 := Aside0.mk hu
 clear hu
 refine step_new (cs := [.int .i64 a3_0, .int .i64 a3_1]) (T := 30) (f := fun b => .pointer (some ⟨b, 0, none⟩)) rfl (by go_simp <;> rfl) ?_
 intro b5 w6 hu lb hb5
 simp only [Act.put, nm1, nm2, nm3, i64_w]
 have lbb5 := Aside0.mk lb
 have ltb5 := Aside0.mk hb5.lt
 clear lb
 have hu7 := Aside0.mk hu
 clear hu
 refine step_new (cs := [.int .i64 a4_0, .int .i64 a4_1]) (T := 30) (f := fun b => .pointer (some ⟨b, 0, none⟩)) rfl (by go_simp <;> rfl) ?_
 intro b8 w9 hu lb hb8
 simp only [Act.put, nm1, nm2, nm3, i64_w]
 have lbb8 := Aside0.mk lb
 have ltb8 := Aside0.mk hb8.lt
 clear lb
 have hu10 := Aside0.mk hu
 clear hu
 refine step_new (cs := [.int .i64 0, .int .i64 0]) (T := 30) (f := fun b => .pointer (some ⟨b, 0, none⟩)) rfl (by go_simp <;> rfl) ?_
 intro b11 w12 hu lb hb11
 simp only [Act.put, nm1, nm2, nm3, i64_w]
 have lbb11 := Aside0.mk lb
 have ltb11 := Aside0.mk hb11.lt
 clear lb
 have hu13 := Aside0.mk hu
 clear hu
 refine wpp fun K_ h_ => ?_; go_simp; refine h_ _ _ ?_; clear h_ K_
 refine wpList_nil ?_
 (try simp only [Exit.then, Exit.inBlock, ↓reduceIte, Nat.reduceEqDiff])
 refine hK1 _ _ ?_
 refine wp_seq_k (fun K14 hK14 => ?_)
 refine wp_seq_k (fun K15 hK15 => ?_)
 refine wp_region_lit ?_
 refine wpp fun K_ h_ => ?_; go_simp; refine h_ _ _ ?_; clear h_ K_
 refine wpp fun K_ h_ => ?_; go_simp; refine h_ _ _ ?_; clear h_ K_
 have cl0 := (hb2.up ((hu7.out.trans hu10.out).trans hu13.out)).cell (o := 0) rfl
 have cl1 := (hb2.up ((hu7.out.trans hu10.out).trans hu13.out)).cell (o := 1) rfl
 refine wpp fun K_ h_ => ?_; go_simp; refine h_ _ _ ?_; clear h_ K_
 clear cl0 cl1
 have cl0 := (hb5.up (hu10.out.trans hu13.out)).cell (o := 0) rfl
 have cl1 := (hb5.up (hu10.out.trans hu13.out)).cell (o := 1) rfl
 refine wpp fun K_ h_ => ?_; go_simp; refine h_ _ _ ?_; clear h_ K_
 clear cl0 cl1
 have cl0 := (hb8.up hu13.out).cell (o := 0) rfl
 have cl1 := (hb8.up hu13.out).cell (o := 1) rfl
 refine wpp fun K_ h_ => ?_; go_simp; refine h_ _ _ ?_; clear h_ K_
 clear cl0 cl1
 refine step_call (wanted_none rfl) (by go_simp <;> rfl) (impl_triangle.calls K a0 a1 a2_0 a2_1 a3_0 a3_1 a4_0 a4_1 t16 w12  A17.out) ?_
 rintro e w18 ⟨rfl, hu⟩
 have hu19 := Aside0.mk hu
 clear hu
 refine ⟨_, rfl, ?_⟩
 simp only [Act.put, nm1, nm2, nm3, i64_w]
 refine wpp fun K_ h_ => ?_; go_simp; refine h_ _ _ ?_; clear h_ K_
 refine wpList_nil ?_
 (try simp only [Exit.then, Exit.inBlock, ↓reduceIte, Nat.reduceEqDiff])
 refine hK15 _ _ ?_
 refine wp_seq_k (fun K20 hK20 => ?_)
 refine wp_region_lit ?_
 refine wpp fun K_ h_ => ?_; go_simp; refine h_ _ _ ?_; clear h_ K_
 refine wpp fun K_ h_ => ?_; go_simp; refine h_ _ _ ?_; clear h_ K_
 refine wpList_nil ?_
 (try simp only [Exit.then, Exit.inBlock, ↓reduceIte, Nat.reduceEqDiff])
 refine hK20 _ _ ?_
 have hm22 := Aside0.mk (Nat.le_trans ((Nat.le_trans ((Nat.le_trans ((Nat.le_trans (hu4.out.size) hu7.out.size)) hu10.out.size)) hu13.out.size)) hu19.out.size)
 have h23 := (hb2.up (((hu7.out.trans hu10.out).trans hu13.out).trans hu19.out))
 by_cases c21 : (t16 == 0) = true
 rotate_left
 ·
  rw [if_neg c21] at H; replace c21 := Bool.eq_false_iff.mpr c21
  have c21n : (t16 != 0) = true := by rw [bne, c21]; rfl
  have c21p : ¬ t16 = 0 := fun e => by simp [e] at c21
  simp only [Option.some.injEq, Prod.mk.injEq] at H
  obtain ⟨rfl, rfl, rfl⟩ := H
  try simp only [c21, c21n, Bool.not_true, Bool.not_false]
  refine wp_cond_true rfl ?_
  refine wp_seq_k (fun K34 hK34 => ?_)
  refine wp_region_lit ?_
  refine wpp fun K_ h_ => ?_; go_simp; refine h_ _ _ ?_; clear h_ K_
  refine wpp fun K_ h_ => ?_; go_simp; refine h_ _ _ ?_; clear h_ K_
  have hB0 := (hb11.up hu19.out)
  have cl0 := hB0.cell (o := 0) rfl
  have fr0 := hB0.free 0
  have cl1 := hB0.cell (o := 1) rfl
  have fr1 := hB0.free 1
  refine step_store (b := b11) (cs' := [.int .i64 0, .int .i64 0]) (T := 30) (W' := ((w18.setCell ⟨b11, 0, none⟩ (.int .i64 0)).setCell ⟨b11, 1, none⟩ (.int .i64 0))) rfl rfl (by go_simp <;> rfl) (((Sto.refl _ _).setCell 0 _).setCell 1 _) (((hB0).setCell 0 _).setCell 1 _) ?_
  clear hB0 cl0 fr0 cl1 fr1
  intro w35 hs hb37
  have hs36 := Aside0.mk hs
  clear hs
  have h38 := h23.sto hs36.out (Nat.ne_of_lt (Nat.lt_of_lt_of_le (Nat.lt_of_lt_of_le ltb2.out ((Nat.le_trans (hu7.out.size) hu10.out.size))) lbb11.out))
  refine wpp fun K_ h_ => ?_; go_simp; refine h_ _ _ ?_; clear h_ K_
  refine wpList_nil ?_
  (try simp only [Exit.then, Exit.inBlock, ↓reduceIte, Nat.reduceEqDiff])
  refine hK34 _ _ ?_
  refine wp_ret ?_
  (try simp only [Exit.then, Exit.inBlock, ↓reduceIte, Nat.reduceEqDiff])
  refine hQf _ _ _ ?_
  have cr0 := hb37.cell (o := 0) rfl
  have cr1 := hb37.cell (o := 1) rfl
  exact bodyPost_ret (v := .tuple #[.agg #[.int .i64 0, .int .i64 0], .int .i64 t16]) (by first | rfl | (simp [results, Try.results37, go_sem, cr0, cr1]; done) | (simp [results, Try.results37, go_sem, cr0, cr1]; rfl)) rfl ⟨rfl, (((((hu4.out.trans hu7.out).trans hu10.out).trans hu13.out).trans hu19.out).sto (Nat.le_trans ((Nat.le_trans ((Nat.le_trans (hu4.out.size) hu7.out.size)) hu10.out.size)) lbb11.out) hs36.out)⟩
 rw [if_pos c21] at H
 have c21n : (t16 != 0) = false := by rw [bne, c21]; rfl
 replace H := Option.bind_eq_some_iff.mp H
 obtain ⟨⟨t25, t26⟩, A27, H⟩ := H
 replace A27 := Aside0.mk A27
 try dsimp only at H
 simp only [Option.some.injEq, Prod.mk.injEq] at H
 obtain ⟨rfl, rfl, rfl⟩ := H
 try simp only [c21, c21n, Bool.not_true, Bool.not_false]
 refine wp_cond_false rfl ?_
 refine wp_skip ?_
 (try simp only [Exit.then, Exit.inBlock, ↓reduceIte, Nat.reduceEqDiff])
 refine hK14 _ _ ?_
 refine wp_seq_k (fun K24 hK24 => ?_)
 refine wp_region_lit ?_
 refine wpp fun K_ h_ => ?_; go_simp; refine h_ _ _ ?_; clear h_ K_
 refine wpp fun K_ h_ => ?_; go_simp; refine h_ _ _ ?_; clear h_ K_
 have cl0 := h23.cell (o := 0) rfl
 have cl1 := h23.cell (o := 1) rfl
 refine wpp fun K_ h_ => ?_; go_simp; refine h_ _ _ ?_; clear h_ K_
 clear cl0 cl1
 have cl0 := (hb5.up ((hu10.out.trans hu13.out).trans hu19.out)).cell (o := 0) rfl
 have cl1 := (hb5.up ((hu10.out.trans hu13.out).trans hu19.out)).cell (o := 1) rfl
 refine wpp fun K_ h_ => ?_; go_simp; refine h_ _ _ ?_; clear h_ K_
 clear cl0 cl1
 have cl0 := (hb8.up (hu13.out.trans hu19.out)).cell (o := 0) rfl
 have cl1 := (hb8.up (hu13.out.trans hu19.out)).cell (o := 1) rfl
 refine wpp fun K_ h_ => ?_; go_simp; refine h_ _ _ ?_; clear h_ K_
 clear cl0 cl1
 refine step_call (wanted_none rfl) (by go_simp <;> rfl) (impl_circumcentre.calls K a0 a1 a2_0 a2_1 a3_0 a3_1 a4_0 a4_1 t25 t26 w18  A27.out) ?_
 rintro e w28 ⟨rfl, hu⟩
 have hu29 := Aside0.mk hu
 clear hu
 refine ⟨_, rfl, ?_⟩
 simp only [Act.put, nm1, nm2, nm3, i64_w]
 have hB0 := (hb11.up (hu19.out.trans hu29.out))
 have cl0 := hB0.cell (o := 0) rfl
 have fr0 := hB0.free 0
 have cl1 := hB0.cell (o := 1) rfl
 have fr1 := hB0.free 1
 refine step_store (b := b11) (cs' := [.int .i64 t25, .int .i64 t26]) (T := 30) (W' := ((w28.setCell ⟨b11, 0, none⟩ (.int .i64 t25)).setCell ⟨b11, 1, none⟩ (.int .i64 t26))) rfl rfl (by go_simp <;> rfl) (((Sto.refl _ _).setCell 0 _).setCell 1 _) (((hB0).setCell 0 _).setCell 1 _) ?_
 clear hB0 cl0 fr0 cl1 fr1
 intro w30 hs hb32
 have hs31 := Aside0.mk hs
 clear hs
 have h33 := (h23.up hu29.out).sto hs31.out (Nat.ne_of_lt (Nat.lt_of_lt_of_le (Nat.lt_of_lt_of_le ltb2.out ((Nat.le_trans (hu7.out.size) hu10.out.size))) lbb11.out))
 refine wpp fun K_ h_ => ?_; go_simp; refine h_ _ _ ?_; clear h_ K_
 refine wpList_nil ?_
 (try simp only [Exit.then, Exit.inBlock, ↓reduceIte, Nat.reduceEqDiff])
 refine hK24 _ _ ?_
 refine wp_ret ?_
 (try simp only [Exit.then, Exit.inBlock, ↓reduceIte, Nat.reduceEqDiff])
 refine hQf _ _ _ ?_
 have cr0 := hb32.cell (o := 0) rfl
 have cr1 := hb32.cell (o := 1) rfl
 exact bodyPost_ret (v := .tuple #[.agg #[.int .i64 t25, .int .i64 t26], .int .i64 0]) (by first | rfl | (simp [results, Try.results37, go_sem, cr0, cr1]; done) | (simp [results, Try.results37, go_sem, cr0, cr1]; rfl)) rfl ⟨rfl, ((((((hu4.out.trans hu7.out).trans hu10.out).trans hu13.out).trans hu19.out).trans hu29.out).sto (Nat.le_trans ((Nat.le_trans ((Nat.le_trans (hu4.out.size) hu7.out.size)) hu10.out.size)) lbb11.out) hs31.out)⟩

set_option maxHeartbeats 40000000 in
set_option maxRecDepth 100000 in
theorem spec_l04Circumcentre.calls (K : Nat) (a0 : Int) (a1 : Int) (a2_0 : Int) (a2_1 : Int) (a3_0 : Int) (a3_1 : Int) (a4_0 : Int) (a4_1 : Int) (r0 : Int) (r1 : Int) (w : World)  (h : spec_l04Circumcentre.f K a0 a1 a2_0 a2_1 a3_0 a3_1 a4_0 a4_1 = some (r0, r1)) :
    Calls Try.prog 122 #[.int .i64 a0, .int .i64 a1, .agg #[.int .i64 a2_0, .int .i64 a2_1], .agg #[.int .i64 a3_0, .int .i64 a3_1], .agg #[.int .i64 a4_0, .int .i64 a4_1]] w fun e w' => e = .returned (.agg #[.int .i64 r0, .int .i64 r1]) ∧ Up w w' := by
 have H : (((spec_l01Minus.f K a0 a2_0 a2_1 a3_0 a3_1).bind fun (t15, t16) => ((spec_l01Middle.f K a0 a2_0 a2_1 a3_0 a3_1).bind fun (t18, t19) => ((spec_l02Through.f K a0 a1 t15 t16 t18 t19).bind fun (t21, t22, t23) => ((spec_l01Minus.f K a0 a2_0 a2_1 a4_0 a4_1).bind fun (t33, t34) => ((spec_l01Middle.f K a0 a2_0 a2_1 a4_0 a4_1).bind fun (t36, t37) => ((spec_l02Through.f K a0 a1 t33 t34 t36 t37).bind fun (t39, t40, t41) => ((spec_l01Meet.f K a0 t21 t22 t23 t39 t40 t41).bind fun (t51, t52, t53) => some (t51, t52)))))))) : Option (Int × Int)) = some (r0, r1) := h
 clear h
 replace H := Option.bind_eq_some_iff.mp H
 obtain ⟨⟨t15, t16⟩, A17, H⟩ := H
 replace A17 := Aside0.mk A17
 try dsimp only at H
 replace H := Option.bind_eq_some_iff.mp H
 obtain ⟨⟨t18, t19⟩, A20, H⟩ := H
 replace A20 := Aside0.mk A20
 try dsimp only at H
 replace H := Option.bind_eq_some_iff.mp H
 obtain ⟨⟨t21, t22, t23⟩, A24, H⟩ := H
 replace A24 := Aside0.mk A24
 try dsimp only at H
 replace H := Option.bind_eq_some_iff.mp H
 obtain ⟨⟨t33, t34⟩, A35, H⟩ := H
 replace A35 := Aside0.mk A35
 try dsimp only at H
 replace H := Option.bind_eq_some_iff.mp H
 obtain ⟨⟨t36, t37⟩, A38, H⟩ := H
 replace A38 := Aside0.mk A38
 try dsimp only at H
 replace H := Option.bind_eq_some_iff.mp H
 obtain ⟨⟨t39, t40, t41⟩, A42, H⟩ := H
 replace A42 := Aside0.mk A42
 try dsimp only at H
 replace H := Option.bind_eq_some_iff.mp H
 obtain ⟨⟨t51, t52, t53⟩, A54, H⟩ := H
 replace A54 := Aside0.mk A54
 try dsimp only at H
 simp only [Option.some.injEq, Prod.mk.injEq] at H
 obtain ⟨rfl, rfl⟩ := H
 go_enter Try.func122, Try.ntmps122
 refine wp_hide (fun Qf hQf => ?_)
 refine wp_seq_k (fun K1 hK1 => ?_)
 refine wp_region_lit ?_
 refine step_new (cs := [.int .i64 a2_0, .int .i64 a2_1]) (T := 30) (f := fun b => .pointer (some ⟨b, 0, none⟩)) rfl (by go_simp <;> rfl) ?_
 intro b2 w3 hu lb hb2
 simp only [Act.put, nm1, nm2, nm3, i64_w]
 have lbb2 := Aside0.mk lb
 have ltb2 := Aside0.mk hb2.lt
 clear lb
 have hu4 := Aside0.mk hu
 clear hu
 refine step_new (cs := [.int .i64 a3_0, .int .i64 a3_1]) (T := 30) (f := fun b => .pointer (some ⟨b, 0, none⟩)) rfl (by go_simp <;> rfl) ?_
 intro b5 w6 hu lb hb5
 simp only [Act.put, nm1, nm2, nm3, i64_w]
 have lbb5 := Aside0.mk lb
 have ltb5 := Aside0.mk hb5.lt
 clear lb
 have hu7 := Aside0.mk hu
 clear hu
 refine step_new (cs := [.int .i64 a4_0, .int .i64 a4_1]) (T := 30) (f := fun b => .pointer (some ⟨b, 0, none⟩)) rfl (by go_simp <;> rfl) ?_
 intro b8 w9 hu lb hb8
 simp only [Act.put, nm1, nm2, nm3, i64_w]
 have lbb8 := Aside0.mk lb
 have ltb8 := Aside0.mk hb8.lt
 clear lb
 have hu10 := Aside0.mk hu
 clear hu
 refine step_new (cs := [.int .i64 0, .int .i64 0]) (T := 30) (f := fun b => .pointer (some ⟨b, 0, none⟩)) rfl (by go_simp <;> rfl) ?_
 intro b11 w12 hu lb hb11
 simp only [Act.put, nm1, nm2, nm3, i64_w]
 have lbb11 := Aside0.mk lb
 have ltb11 := Aside0.mk hb11.lt
 clear lb
 have hu13 := Aside0.mk hu
 clear hu
 refine wpList_nil ?_
 (try simp only [Exit.then, Exit.inBlock, ↓reduceIte, Nat.reduceEqDiff])
 refine hK1 _ _ ?_
 refine wp_seq_k (fun K14 hK14 => ?_)
 refine' wp_region_up 12 [Slot.det _, Slot.det _, Slot.det _, Slot.det _, Slot.det _, Slot.det (.agg #[.int .i64 t15, .int .i64 t16]), Slot.det _, Slot.det _, Slot.det _, Slot.det (.agg #[.int .i64 t18, .int .i64 t19]), Slot.det (.agg #[.int .i64 t21, .int .i64 t22, .int .i64 t23]), Slot.any (PtrTo [.int .i64 0, .int .i64 0, .int .i64 0] 34) true] (by kernel_rfl) (by kernel_rfl) ?main
 case main =>
  simp only [List.take_succ_cons, List.take_zero]
  refine wpK_ops rfl (fun w1 hu => ?_) ?_
  · clear hu
    go_simp
    first | done | rfl
  simp only [Act.put, nm1, nm2, nm3, i64_w]
  refine wpK_ops rfl (fun w1 hu => ?_) ?_
  · clear hu
    go_simp
    first | done | rfl
  simp only [Act.put, nm1, nm2, nm3, i64_w]
  refine wpK_ops rfl (fun w1 hu => ?_) ?_
  · clear hu
    go_simp
    first | done | rfl
  simp only [Act.put, nm1, nm2, nm3, i64_w]
  refine wpK_ops rfl (fun w1 hu => ?_) ?_
  · have cl0 := ((hb2.up ((hu7.out.trans hu10.out).trans hu13.out)).up ((Up.refl _).drew.trans hu)).cell (o := 0) rfl
    have cl1 := ((hb2.up ((hu7.out.trans hu10.out).trans hu13.out)).up ((Up.refl _).drew.trans hu)).cell (o := 1) rfl
    go_simp
    first | done | rfl
  simp only [Act.put, nm1, nm2, nm3, i64_w]
  refine wpK_ops rfl (fun w1 hu => ?_) ?_
  · have cl0 := ((hb5.up (hu10.out.trans hu13.out)).up ((Up.refl _).drew.trans hu)).cell (o := 0) rfl
    have cl1 := ((hb5.up (hu10.out.trans hu13.out)).up ((Up.refl _).drew.trans hu)).cell (o := 1) rfl
    go_simp
    first | done | rfl
  simp only [Act.put, nm1, nm2, nm3, i64_w]
  refine wpK_ops rfl (fun w1 hu => ?_) ?_
  · have hcl := (spec_l01Minus.calls K a0 a2_0 a2_1 a3_0 a3_1 t15 t16 w1  A17.out)
    clear hu
    replace hcl := Aside0.mk hcl
    go_simp
    exact hcl.out
  simp only [Act.put, nm1, nm2, nm3, i64_w]
  refine wpK_ops rfl (fun w1 hu => ?_) ?_
  · clear hu
    go_simp
    first | done | rfl
  simp only [Act.put, nm1, nm2, nm3, i64_w]
  refine wpK_ops rfl (fun w1 hu => ?_) ?_
  · have cl0 := ((hb2.up ((hu7.out.trans hu10.out).trans hu13.out)).up ((Up.refl _).drew.trans hu)).cell (o := 0) rfl
    have cl1 := ((hb2.up ((hu7.out.trans hu10.out).trans hu13.out)).up ((Up.refl _).drew.trans hu)).cell (o := 1) rfl
    go_simp
    first | done | rfl
  simp only [Act.put, nm1, nm2, nm3, i64_w]
  refine wpK_ops rfl (fun w1 hu => ?_) ?_
  · have cl0 := ((hb5.up (hu10.out.trans hu13.out)).up ((Up.refl _).drew.trans hu)).cell (o := 0) rfl
    have cl1 := ((hb5.up (hu10.out.trans hu13.out)).up ((Up.refl _).drew.trans hu)).cell (o := 1) rfl
    go_simp
    first | done | rfl
  simp only [Act.put, nm1, nm2, nm3, i64_w]
  refine wpK_ops rfl (fun w1 hu => ?_) ?_
  · have hcl := (spec_l01Middle.calls K a0 a2_0 a2_1 a3_0 a3_1 t18 t19 w1  A20.out)
    clear hu
    replace hcl := Aside0.mk hcl
    go_simp
    exact hcl.out
  simp only [Act.put, nm1, nm2, nm3, i64_w]
  refine wpK_ops rfl (fun w1 hu => ?_) ?_
  · have hcl := (spec_l02Through.calls K a0 a1 t15 t16 t18 t19 t21 t22 t23 w1  A24.out)
    clear hu
    replace hcl := Aside0.mk hcl
    go_simp
    exact hcl.out
  simp only [Act.put, nm1, nm2, nm3, i64_w]
  refine wpK_any rfl (stab_ptr _ _) (fun w1 _ _ => fresh_ptr (by go_simp <;> rfl)) (fun v25 => ?_)
  simp only [Act.put, nm1, nm2, nm3, i64_w]
  refine wpK_nil ?_
  intro w27 hu hap
  simp only [List.drop_succ_cons, List.drop_zero]
  replace hu := (Up.refl _).drew.trans hu
  obtain ⟨hf0, hn0, ⟨b26, e0, hb26⟩, -⟩ := hap
  have lbb26 := Aside0.mk (hf0 rfl b26 (by rw [e0]; rfl)).1
  have ltb26 := Aside0.mk hb26.lt
  dsimp only at e0
  subst e0
  clear hf0 hn0
  have hu28 := Aside0.mk hu
  clear hu
  have hB0 := hb26
  have cl0 := hB0.cell (o := 0) rfl
  have fr0 := hB0.free 0
  have cl1 := hB0.cell (o := 1) rfl
  have fr1 := hB0.free 1
  have cl2 := hB0.cell (o := 2) rfl
  have fr2 := hB0.free 2
  refine step_store (b := b26) (cs' := [.int .i64 t21, .int .i64 t22, .int .i64 t23]) (T := 34) (W' := (((w27.setCell ⟨b26, 0, none⟩ (.int .i64 t21)).setCell ⟨b26, 1, none⟩ (.int .i64 t22)).setCell ⟨b26, 2, none⟩ (.int .i64 t23))) rfl rfl (by go_simp <;> rfl) ((((Sto.refl _ _).setCell 0 _).setCell 1 _).setCell 2 _) ((((hB0).setCell 0 _).setCell 1 _).setCell 2 _) ?_
  clear hB0 cl0 fr0 cl1 fr1 cl2 fr2
  intro w29 hs hb31
  have hs30 := Aside0.mk hs
  clear hs
  refine wpList_nil ?_
  (try simp only [Exit.then, Exit.inBlock, ↓reduceIte, Nat.reduceEqDiff])
  refine hK14 _ _ ?_
  refine wp_seq_k (fun K32 hK32 => ?_)
  refine' wp_region_up 12 [Slot.det _, Slot.det _, Slot.det _, Slot.det _, Slot.det _, Slot.det (.agg #[.int .i64 t33, .int .i64 t34]), Slot.det _, Slot.det _, Slot.det _, Slot.det (.agg #[.int .i64 t36, .int .i64 t37]), Slot.det (.agg #[.int .i64 t39, .int .i64 t40, .int .i64 t41]), Slot.any (PtrTo [.int .i64 0, .int .i64 0, .int .i64 0] 34) true] (by kernel_rfl) (by kernel_rfl) ?main
  case main =>
   simp only [List.take_succ_cons, List.take_zero]
   refine wpK_ops rfl (fun w1 hu => ?_) ?_
   · clear hu
     go_simp
     first | done | rfl
   simp only [Act.put, nm1, nm2, nm3, i64_w]
   refine wpK_ops rfl (fun w1 hu => ?_) ?_
   · clear hu
     go_simp
     first | done | rfl
   simp only [Act.put, nm1, nm2, nm3, i64_w]
   refine wpK_ops rfl (fun w1 hu => ?_) ?_
   · clear hu
     go_simp
     first | done | rfl
   simp only [Act.put, nm1, nm2, nm3, i64_w]
   refine wpK_ops rfl (fun w1 hu => ?_) ?_
   · have cl0 := ((hb2.up ((((hu7.out.trans hu10.out).trans hu13.out).trans hu28.out).sto (Nat.le_trans ((Nat.le_trans ((Nat.le_trans (hu7.out.size) hu10.out.size)) hu13.out.size)) lbb26.out) hs30.out)).up ((Up.refl _).drew.trans hu)).cell (o := 0) rfl
     have cl1 := ((hb2.up ((((hu7.out.trans hu10.out).trans hu13.out).trans hu28.out).sto (Nat.le_trans ((Nat.le_trans ((Nat.le_trans (hu7.out.size) hu10.out.size)) hu13.out.size)) lbb26.out) hs30.out)).up ((Up.refl _).drew.trans hu)).cell (o := 1) rfl
     go_simp
     first | done | rfl
   simp only [Act.put, nm1, nm2, nm3, i64_w]
   refine wpK_ops rfl (fun w1 hu => ?_) ?_
   · have cl0 := ((hb8.up ((hu13.out.trans hu28.out).sto (Nat.le_trans (hu13.out.size) lbb26.out) hs30.out)).up ((Up.refl _).drew.trans hu)).cell (o := 0) rfl
     have cl1 := ((hb8.up ((hu13.out.trans hu28.out).sto (Nat.le_trans (hu13.out.size) lbb26.out) hs30.out)).up ((Up.refl _).drew.trans hu)).cell (o := 1) rfl
     go_simp
     first | done | rfl
   simp only [Act.put, nm1, nm2, nm3, i64_w]
   refine wpK_ops rfl (fun w1 hu => ?_) ?_
   · have hcl := (spec_l01Minus.calls K a0 a2_0 a2_1 a4_0 a4_1 t33 t34 w1  A35.out)
     clear hu
     replace hcl := Aside0.mk hcl
     go_simp
     exact hcl.out
   simp only [Act.put, nm1, nm2, nm3, i64_w]
   refine wpK_ops rfl (fun w1 hu => ?_) ?_
   · clear hu
     go_simp
     first | done | rfl
   simp only [Act.put, nm1, nm2, nm3, i64_w]
   refine wpK_ops rfl (fun w1 hu => ?_) ?_
   · have cl0 := ((hb2.up ((((hu7.out.trans hu10.out).trans hu13.out).trans hu28.out).sto (Nat.le_trans ((Nat.le_trans ((Nat.le_trans (hu7.out.size) hu10.out.size)) hu13.out.size)) lbb26.out) hs30.out)).up ((Up.refl _).drew.trans hu)).cell (o := 0) rfl
     have cl1 := ((hb2.up ((((hu7.out.trans hu10.out).trans hu13.out).trans hu28.out).sto (Nat.le_trans ((Nat.le_trans ((Nat.le_trans (hu7.out.size) hu10.out.size)) hu13.out.size)) lbb26.out) hs30.out)).up ((Up.refl _).drew.trans hu)).cell (o := 1) rfl
     go_simp
     first | done | rfl
   simp only [Act.put, nm1, nm2, nm3, i64_w]
   refine wpK_ops rfl (fun w1 hu => ?_) ?_
   · have cl0 := ((hb8.up ((hu13.out.trans hu28.out).sto (Nat.le_trans (hu13.out.size) lbb26.out) hs30.out)).up ((Up.refl _).drew.trans hu)).cell (o := 0) rfl
     have cl1 := ((hb8.up ((hu13.out.trans hu28.out).sto (Nat.le_trans (hu13.out.size) lbb26.out) hs30.out)).up ((Up.refl _).drew.trans hu)).cell (o := 1) rfl
     go_simp
     first | done | rfl
   simp only [Act.put, nm1, nm2, nm3, i64_w]
   refine wpK_ops rfl (fun w1 hu => ?_) ?_
   · have hcl := (spec_l01Middle.calls K a0 a2_0 a2_1 a4_0 a4_1 t36 t37 w1  A38.out)
     clear hu
     replace hcl := Aside0.mk hcl
     go_simp
     exact hcl.out
   simp only [Act.put, nm1, nm2, nm3, i64_w]
   refine wpK_ops rfl (fun w1 hu => ?_) ?_
   · have hcl := (spec_l02Through.calls K a0 a1 t33 t34 t36 t37 t39 t40 t41 w1  A42.out)
     clear hu
     replace hcl := Aside0.mk hcl
     go_simp
     exact hcl.out
   simp only [Act.put, nm1, nm2, nm3, i64_w]
   refine wpK_any rfl (stab_ptr _ _) (fun w1 _ _ => fresh_ptr (by go_simp <;> rfl)) (fun v43 => ?_)
   simp only [Act.put, nm1, nm2, nm3, i64_w]
   refine wpK_nil ?_
   intro w45 hu hap
   simp only [List.drop_succ_cons, List.drop_zero]
   replace hu := (Up.refl _).drew.trans hu
   obtain ⟨hf0, hn0, ⟨b44, e0, hb44⟩, -⟩ := hap
   have lbb44 := Aside0.mk (hf0 rfl b44 (by rw [e0]; rfl)).1
   have ltb44 := Aside0.mk hb44.lt
   dsimp only at e0
   subst e0
   clear hf0 hn0
   have hu46 := Aside0.mk hu
   clear hu
   have hB0 := hb44
   have cl0 := hB0.cell (o := 0) rfl
   have fr0 := hB0.free 0
   have cl1 := hB0.cell (o := 1) rfl
   have fr1 := hB0.free 1
   have cl2 := hB0.cell (o := 2) rfl
   have fr2 := hB0.free 2
   refine step_store (b := b44) (cs' := [.int .i64 t39, .int .i64 t40, .int .i64 t41]) (T := 34) (W' := (((w45.setCell ⟨b44, 0, none⟩ (.int .i64 t39)).setCell ⟨b44, 1, none⟩ (.int .i64 t40)).setCell ⟨b44, 2, none⟩ (.int .i64 t41))) rfl rfl (by go_simp <;> rfl) ((((Sto.refl _ _).setCell 0 _).setCell 1 _).setCell 2 _) ((((hB0).setCell 0 _).setCell 1 _).setCell 2 _) ?_
   clear hB0 cl0 fr0 cl1 fr1 cl2 fr2
   intro w47 hs hb49
   have hs48 := Aside0.mk hs
   clear hs
   refine wpList_nil ?_
   (try simp only [Exit.then, Exit.inBlock, ↓reduceIte, Nat.reduceEqDiff])
   refine hK32 _ _ ?_
   refine wp_seq_k (fun K50 hK50 => ?_)
   refine wp_region_lit ?_
   refine wpp fun K_ h_ => ?_; go_simp; refine h_ _ _ ?_; clear h_ K_
   have cl0 := (hb31.up (hu46.out.sto (Nat.le_trans (Nat.le_refl _) lbb44.out) hs48.out)).cell (o := 0) rfl
   have cl1 := (hb31.up (hu46.out.sto (Nat.le_trans (Nat.le_refl _) lbb44.out) hs48.out)).cell (o := 1) rfl
   have cl2 := (hb31.up (hu46.out.sto (Nat.le_trans (Nat.le_refl _) lbb44.out) hs48.out)).cell (o := 2) rfl
   refine wpp fun K_ h_ => ?_; go_simp; refine h_ _ _ ?_; clear h_ K_
   clear cl0 cl1 cl2
   have cl0 := hb49.cell (o := 0) rfl
   have cl1 := hb49.cell (o := 1) rfl
   have cl2 := hb49.cell (o := 2) rfl
   refine wpp fun K_ h_ => ?_; go_simp; refine h_ _ _ ?_; clear h_ K_
   clear cl0 cl1 cl2
   refine step_call (wanted_none rfl) (by go_simp <;> rfl) (spec_l01Meet.calls K a0 t21 t22 t23 t39 t40 t41 t51 t52 t53 w47  A54.out) ?_
   rintro e w55 ⟨rfl, hu⟩
   have hu56 := Aside0.mk hu
   clear hu
   refine ⟨_, rfl, ?_⟩
   simp only [Act.put, nm1, nm2, nm3, i64_w]
   refine wpp fun K_ h_ => ?_; go_simp; refine h_ _ _ ?_; clear h_ K_
   refine wpp fun K_ h_ => ?_; go_simp; refine h_ _ _ ?_; clear h_ K_
   refine wpp fun K_ h_ => ?_; go_simp; refine h_ _ _ ?_; clear h_ K_
   refine step_new (cs := [.int .i64 0, .int .i64 0]) (T := 30) (f := fun b => .pointer (some ⟨b, 0, none⟩)) rfl (by go_simp <;> rfl) ?_
   intro b57 w58 hu lb hb57
   simp only [Act.put, nm1, nm2, nm3, i64_w]
   have lbb57 := Aside0.mk lb
   have ltb57 := Aside0.mk hb57.lt
   clear lb
   have hu59 := Aside0.mk hu
   clear hu
   have hB0 := hb57
   have cl0 := hB0.cell (o := 0) rfl
   have fr0 := hB0.free 0
   have cl1 := hB0.cell (o := 1) rfl
   have fr1 := hB0.free 1
   refine step_store (b := b57) (cs' := [.int .i64 t51, .int .i64 t52]) (T := 30) (W' := ((w58.setCell ⟨b57, 0, none⟩ (.int .i64 t51)).setCell ⟨b57, 1, none⟩ (.int .i64 t52))) rfl rfl (by go_simp <;> rfl) (((Sto.refl _ _).setCell 0 _).setCell 1 _) (((hB0).setCell 0 _).setCell 1 _) ?_
   clear hB0 cl0 fr0 cl1 fr1
   intro w60 hs hb62
   have hs61 := Aside0.mk hs
   clear hs
   refine wpp fun K_ h_ => ?_; go_simp; refine h_ _ _ ?_; clear h_ K_
   refine wpList_nil ?_
   (try simp only [Exit.then, Exit.inBlock, ↓reduceIte, Nat.reduceEqDiff])
   refine hK50 _ _ ?_
   refine wp_seq_k (fun K63 hK63 => ?_)
   refine wp_region_lit ?_
   have cl0 := hb62.cell (o := 0) rfl
   have cl1 := hb62.cell (o := 1) rfl
   refine wpp fun K_ h_ => ?_; go_simp; refine h_ _ _ ?_; clear h_ K_
   clear cl0 cl1
   have hB0 := (hb11.up ((((((hu28.out.sto (Nat.le_trans (Nat.le_refl _) lbb26.out) hs30.out).trans hu46.out).sto (Nat.le_trans ((Nat.le_trans (hu28.out.size) (Nat.le_of_eq hs30.out.size.symm))) lbb44.out) hs48.out).trans hu56.out).trans hu59.out).sto (Nat.le_trans ((Nat.le_trans ((Nat.le_trans ((Nat.le_trans ((Nat.le_trans (hu28.out.size) (Nat.le_of_eq hs30.out.size.symm))) hu46.out.size)) (Nat.le_of_eq hs48.out.size.symm))) hu56.out.size)) lbb57.out) hs61.out))
   have cl0 := hB0.cell (o := 0) rfl
   have fr0 := hB0.free 0
   have cl1 := hB0.cell (o := 1) rfl
   have fr1 := hB0.free 1
   refine step_store (b := b11) (cs' := [.int .i64 t51, .int .i64 t52]) (T := 30) (W' := ((w60.setCell ⟨b11, 0, none⟩ (.int .i64 t51)).setCell ⟨b11, 1, none⟩ (.int .i64 t52))) rfl rfl (by go_simp <;> rfl) (((Sto.refl _ _).setCell 0 _).setCell 1 _) (((hB0).setCell 0 _).setCell 1 _) ?_
   clear hB0 cl0 fr0 cl1 fr1
   intro w64 hs hb66
   have hs65 := Aside0.mk hs
   clear hs
   have h67 := (hb31.up ((((hu46.out.sto (Nat.le_trans (Nat.le_refl _) lbb44.out) hs48.out).trans hu56.out).trans hu59.out).sto (Nat.le_trans ((Nat.le_trans ((Nat.le_trans (hu46.out.size) (Nat.le_of_eq hs48.out.size.symm))) hu56.out.size)) lbb57.out) hs61.out)).sto hs65.out (Ne.symm (Nat.ne_of_lt (Nat.lt_of_lt_of_le ltb11.out lbb26.out)))
   have h68 := (hb49.up ((hu56.out.trans hu59.out).sto (Nat.le_trans (hu56.out.size) lbb57.out) hs61.out)).sto hs65.out (Ne.symm (Nat.ne_of_lt (Nat.lt_of_lt_of_le (Nat.lt_of_lt_of_le ltb11.out ((Nat.le_trans (hu28.out.size) (Nat.le_of_eq hs30.out.size.symm)))) lbb44.out)))
   have h69 := hb62.sto hs65.out (Ne.symm (Nat.ne_of_lt (Nat.lt_of_lt_of_le (Nat.lt_of_lt_of_le ltb11.out ((Nat.le_trans ((Nat.le_trans ((Nat.le_trans ((Nat.le_trans (hu28.out.size) (Nat.le_of_eq hs30.out.size.symm))) hu46.out.size)) (Nat.le_of_eq hs48.out.size.symm))) hu56.out.size))) lbb57.out)))
   refine wpList_nil ?_
   (try simp only [Exit.then, Exit.inBlock, ↓reduceIte, Nat.reduceEqDiff])
   refine hK63 _ _ ?_
   refine wp_ret ?_
   (try simp only [Exit.then, Exit.inBlock, ↓reduceIte, Nat.reduceEqDiff])
   refine hQf _ _ _ ?_
   have cr0 := hb66.cell (o := 0) rfl
   have cr1 := hb66.cell (o := 1) rfl
   exact bodyPost_ret (v := .agg #[.int .i64 t51, .int .i64 t52]) (by first | rfl | (simp [results, Try.results122, go_sem, cr0, cr1]; done) | (simp [results, Try.results122, go_sem, cr0, cr1]; rfl)) rfl ⟨rfl, (((((((((((hu4.out.trans hu7.out).trans hu10.out).trans hu13.out).trans hu28.out).sto (Nat.le_trans ((Nat.le_trans ((Nat.le_trans ((Nat.le_trans (hu4.out.size) hu7.out.size)) hu10.out.size)) hu13.out.size)) lbb26.out) hs30.out).trans hu46.out).sto (Nat.le_trans ((Nat.le_trans ((Nat.le_trans ((Nat.le_trans ((Nat.le_trans ((Nat.le_trans (hu4.out.size) hu7.out.size)) hu10.out.size)) hu13.out.size)) hu28.out.size)) (Nat.le_of_eq hs30.out.size.symm))) lbb44.out) hs48.out).trans hu56.out).trans hu59.out).sto (Nat.le_trans ((Nat.le_trans ((Nat.le_trans ((Nat.le_trans ((Nat.le_trans ((Nat.le_trans ((Nat.le_trans ((Nat.le_trans ((Nat.le_trans (hu4.out.size) hu7.out.size)) hu10.out.size)) hu13.out.size)) hu28.out.size)) (Nat.le_of_eq hs30.out.size.symm))) hu46.out.size)) (Nat.le_of_eq hs48.out.size.symm))) hu56.out.size)) lbb57.out) hs61.out).sto (Nat.le_trans ((Nat.le_trans ((Nat.le_trans (hu4.out.size) hu7.out.size)) hu10.out.size)) lbb11.out) hs65.out)⟩

set_option maxHeartbeats 40000000 in
set_option maxRecDepth 100000 in
theorem spec_CircumcentreOf.calls (K : Nat) (a0 : Int) (a1 : Int) (a2_0 : Int) (a2_1 : Int) (a3_0 : Int) (a3_1 : Int) (a4_0 : Int) (a4_1 : Int) (r0 : Int) (r1 : Int) (r2 : Int) (w : World)  (h : spec_CircumcentreOf.f K a0 a1 a2_0 a2_1 a3_0 a3_1 a4_0 a4_1 = some (r0, r1, r2)) :
    Calls Try.prog 38 #[.int .i64 a0, .int .i64 a1, .agg #[.int .i64 a2_0, .int .i64 a2_1], .agg #[.int .i64 a3_0, .int .i64 a3_1], .agg #[.int .i64 a4_0, .int .i64 a4_1]] w fun e w' => e = .returned (.tuple #[.agg #[.int .i64 r0, .int .i64 r1], .int .i64 r2]) ∧ Up w w' := by
 have H : (((spec_l04Code.f K a0 a1 a2_0 a2_1 a3_0 a3_1 a4_0 a4_1).bind fun t16 => (if (t16 == 0) = true then ((spec_l04Circumcentre.f K a0 a1 a2_0 a2_1 a3_0 a3_1 a4_0 a4_1).bind fun (t25, t26) => some (t25, t26, 0)) else some (0, 0, t16))) : Option (Int × Int × Int)) = some (r0, r1, r2) := h
 clear h
 replace H := Option.bind_eq_some_iff.mp H
 obtain ⟨t16, A17, H⟩ := H
 replace A17 := Aside0.mk A17
 try dsimp only at H
 go_enter Try.func38, Try.ntmps38
 refine wp_hide (fun Qf hQf => ?_)
 refine wp_seq_k (fun K1 hK1 => ?_)
 refine wp_region_lit ?_
 refine step_new (cs := [.int .i64 a2_0, .int .i64 a2_1]) (T := 30) (f := fun b => .pointer (some ⟨b, 0, none⟩)) rfl (by go_simp <;> rfl) ?_
 intro b2 w3 hu lb hb2
 simp only [Act.put, nm1, nm2, nm3, i64_w]
 have lbb2 := Aside0.mk lb
 have ltb2 := Aside0.mk hb2.lt
 clear lb
 have hu4 := Aside0.mk hu
 clear hu
 refine step_new (cs := [.int .i64 a3_0, .int .i64 a3_1]) (T := 30) (f := fun b => .pointer (some ⟨b, 0, none⟩)) rfl (by go_simp <;> rfl) ?_
 intro b5 w6 hu lb hb5
 simp only [Act.put, nm1, nm2, nm3, i64_w]
 have lbb5 := Aside0.mk lb
 have ltb5 := Aside0.mk hb5.lt
 clear lb
 have hu7 := Aside0.mk hu
 clear hu
 refine step_new (cs := [.int .i64 a4_0, .int .i64 a4_1]) (T := 30) (f := fun b => .pointer (some ⟨b, 0, none⟩)) rfl (by go_simp <;> rfl) ?_
 intro b8 w9 hu lb hb8
 simp only [Act.put, nm1, nm2, nm3, i64_w]
 have lbb8 := Aside0.mk lb
 have ltb8 := Aside0.mk hb8.lt
 clear lb
 have hu10 := Aside0.mk hu
 clear hu
 refine step_new (cs := [.int .i64 0, .int .i64 0]) (T := 30) (f := fun b => .pointer (some ⟨b, 0, none⟩)) rfl (by go_simp <;> rfl) ?_
 intro b11 w12 hu lb hb11
 simp only [Act.put, nm1, nm2, nm3, i64_w]
 have lbb11 := Aside0.mk lb
 have ltb11 := Aside0.mk hb11.lt
 clear lb
 have hu13 := Aside0.mk hu
 clear hu
 refine wpp fun K_ h_ => ?_; go_simp; refine h_ _ _ ?_; clear h_ K_
 refine wpList_nil ?_
 (try simp only [Exit.then, Exit.inBlock, ↓reduceIte, Nat.reduceEqDiff])
 refine hK1 _ _ ?_
 refine wp_seq_k (fun K14 hK14 => ?_)
 refine wp_seq_k (fun K15 hK15 => ?_)
 refine wp_region_lit ?_
 refine wpp fun K_ h_ => ?_; go_simp; refine h_ _ _ ?_; clear h_ K_
 refine wpp fun K_ h_ => ?_; go_simp; refine h_ _ _ ?_; clear h_ K_
 have cl0 := (hb2.up ((hu7.out.trans hu10.out).trans hu13.out)).cell (o := 0) rfl
 have cl1 := (hb2.up ((hu7.out.trans hu10.out).trans hu13.out)).cell (o := 1) rfl
 refine wpp fun K_ h_ => ?_; go_simp; refine h_ _ _ ?_; clear h_ K_
 clear cl0 cl1
 have cl0 := (hb5.up (hu10.out.trans hu13.out)).cell (o := 0) rfl
 have cl1 := (hb5.up (hu10.out.trans hu13.out)).cell (o := 1) rfl
 refine wpp fun K_ h_ => ?_; go_simp; refine h_ _ _ ?_; clear h_ K_
 clear cl0 cl1
 have cl0 := (hb8.up hu13.out).cell (o := 0) rfl
 have cl1 := (hb8.up hu13.out).cell (o := 1) rfl
 refine wpp fun K_ h_ => ?_; go_simp; refine h_ _ _ ?_; clear h_ K_
 clear cl0 cl1
 refine step_call (wanted_none rfl) (by go_simp <;> rfl) (spec_l04Code.calls K a0 a1 a2_0 a2_1 a3_0 a3_1 a4_0 a4_1 t16 w12  A17.out) ?_
 rintro e w18 ⟨rfl, hu⟩
 have hu19 := Aside0.mk hu
 clear hu
 refine ⟨_, rfl, ?_⟩
 simp only [Act.put, nm1, nm2, nm3, i64_w]
 refine wpp fun K_ h_ => ?_; go_simp; refine h_ _ _ ?_; clear h_ K_
 refine wpList_nil ?_
 (try simp only [Exit.then, Exit.inBlock, ↓reduceIte, Nat.reduceEqDiff])
 refine hK15 _ _ ?_
 refine wp_seq_k (fun K20 hK20 => ?_)
 refine wp_region_lit ?_
 refine wpp fun K_ h_ => ?_; go_simp; refine h_ _ _ ?_; clear h_ K_
 refine wpp fun K_ h_ => ?_; go_simp; refine h_ _ _ ?_; clear h_ K_
 refine wpList_nil ?_
 (try simp only [Exit.then, Exit.inBlock, ↓reduceIte, Nat.reduceEqDiff])
 refine hK20 _ _ ?_
 have hm22 := Aside0.mk (Nat.le_trans ((Nat.le_trans ((Nat.le_trans ((Nat.le_trans (hu4.out.size) hu7.out.size)) hu10.out.size)) hu13.out.size)) hu19.out.size)
 have h23 := (hb2.up (((hu7.out.trans hu10.out).trans hu13.out).trans hu19.out))
 by_cases c21 : (t16 == 0) = true
 rotate_left
 ·
  rw [if_neg c21] at H; replace c21 := Bool.eq_false_iff.mpr c21
  have c21n : (t16 != 0) = true := by rw [bne, c21]; rfl
  have c21p : ¬ t16 = 0 := fun e => by simp [e] at c21
  simp only [Option.some.injEq, Prod.mk.injEq] at H
  obtain ⟨rfl, rfl, rfl⟩ := H
  try simp only [c21, c21n, Bool.not_true, Bool.not_false]
  refine wp_cond_true rfl ?_
  refine wp_seq_k (fun K34 hK34 => ?_)
  refine wp_region_lit ?_
  refine wpp fun K_ h_ => ?_; go_simp; refine h_ _ _ ?_; clear h_ K_
  refine wpp fun K_ h_ => ?_; go_simp; refine h_ _ _ ?_; clear h_ K_
  have hB0 := (hb11.up hu19.out)
  have cl0 := hB0.cell (o := 0) rfl
  have fr0 := hB0.free 0
  have cl1 := hB0.cell (o := 1) rfl
  have fr1 := hB0.free 1
  refine step_store (b := b11) (cs' := [.int .i64 0, .int .i64 0]) (T := 30) (W' := ((w18.setCell ⟨b11, 0, none⟩ (.int .i64 0)).setCell ⟨b11, 1, none⟩ (.int .i64 0))) rfl rfl (by go_simp <;> rfl) (((Sto.refl _ _).setCell 0 _).setCell 1 _) (((hB0).setCell 0 _).setCell 1 _) ?_
  clear hB0 cl0 fr0 cl1 fr1
  intro w35 hs hb37
  have hs36 := Aside0.mk hs
  clear hs
  have h38 := h23.sto hs36.out (Nat.ne_of_lt (Nat.lt_of_lt_of_le (Nat.lt_of_lt_of_le ltb2.out ((Nat.le_trans (hu7.out.size) hu10.out.size))) lbb11.out))
  refine wpp fun K_ h_ => ?_; go_simp; refine h_ _ _ ?_; clear h_ K_
  refine wpList_nil ?_
  (try simp only [Exit.then, Exit.inBlock, ↓reduceIte, Nat.reduceEqDiff])
  refine hK34 _ _ ?_
  refine wp_ret ?_
  (try simp only [Exit.then, Exit.inBlock, ↓reduceIte, Nat.reduceEqDiff])
  refine hQf _ _ _ ?_
  have cr0 := hb37.cell (o := 0) rfl
  have cr1 := hb37.cell (o := 1) rfl
  exact bodyPost_ret (v := .tuple #[.agg #[.int .i64 0, .int .i64 0], .int .i64 t16]) (by first | rfl | (simp [results, Try.results38, go_sem, cr0, cr1]; done) | (simp [results, Try.results38, go_sem, cr0, cr1]; rfl)) rfl ⟨rfl, (((((hu4.out.trans hu7.out).trans hu10.out).trans hu13.out).trans hu19.out).sto (Nat.le_trans ((Nat.le_trans ((Nat.le_trans (hu4.out.size) hu7.out.size)) hu10.out.size)) lbb11.out) hs36.out)⟩
 rw [if_pos c21] at H
 have c21n : (t16 != 0) = false := by rw [bne, c21]; rfl
 replace H := Option.bind_eq_some_iff.mp H
 obtain ⟨⟨t25, t26⟩, A27, H⟩ := H
 replace A27 := Aside0.mk A27
 try dsimp only at H
 simp only [Option.some.injEq, Prod.mk.injEq] at H
 obtain ⟨rfl, rfl, rfl⟩ := H
 try simp only [c21, c21n, Bool.not_true, Bool.not_false]
 refine wp_cond_false rfl ?_
 refine wp_skip ?_
 (try simp only [Exit.then, Exit.inBlock, ↓reduceIte, Nat.reduceEqDiff])
 refine hK14 _ _ ?_
 refine wp_seq_k (fun K24 hK24 => ?_)
 refine wp_region_lit ?_
 refine wpp fun K_ h_ => ?_; go_simp; refine h_ _ _ ?_; clear h_ K_
 refine wpp fun K_ h_ => ?_; go_simp; refine h_ _ _ ?_; clear h_ K_
 have cl0 := h23.cell (o := 0) rfl
 have cl1 := h23.cell (o := 1) rfl
 refine wpp fun K_ h_ => ?_; go_simp; refine h_ _ _ ?_; clear h_ K_
 clear cl0 cl1
 have cl0 := (hb5.up ((hu10.out.trans hu13.out).trans hu19.out)).cell (o := 0) rfl
 have cl1 := (hb5.up ((hu10.out.trans hu13.out).trans hu19.out)).cell (o := 1) rfl
 refine wpp fun K_ h_ => ?_; go_simp; refine h_ _ _ ?_; clear h_ K_
 clear cl0 cl1
 have cl0 := (hb8.up (hu13.out.trans hu19.out)).cell (o := 0) rfl
 have cl1 := (hb8.up (hu13.out.trans hu19.out)).cell (o := 1) rfl
 refine wpp fun K_ h_ => ?_; go_simp; refine h_ _ _ ?_; clear h_ K_
 clear cl0 cl1
 refine step_call (wanted_none rfl) (by go_simp <;> rfl) (spec_l04Circumcentre.calls K a0 a1 a2_0 a2_1 a3_0 a3_1 a4_0 a4_1 t25 t26 w18  A27.out) ?_
 rintro e w28 ⟨rfl, hu⟩
 have hu29 := Aside0.mk hu
 clear hu
 refine ⟨_, rfl, ?_⟩
 simp only [Act.put, nm1, nm2, nm3, i64_w]
 have hB0 := (hb11.up (hu19.out.trans hu29.out))
 have cl0 := hB0.cell (o := 0) rfl
 have fr0 := hB0.free 0
 have cl1 := hB0.cell (o := 1) rfl
 have fr1 := hB0.free 1
 refine step_store (b := b11) (cs' := [.int .i64 t25, .int .i64 t26]) (T := 30) (W' := ((w28.setCell ⟨b11, 0, none⟩ (.int .i64 t25)).setCell ⟨b11, 1, none⟩ (.int .i64 t26))) rfl rfl (by go_simp <;> rfl) (((Sto.refl _ _).setCell 0 _).setCell 1 _) (((hB0).setCell 0 _).setCell 1 _) ?_
 clear hB0 cl0 fr0 cl1 fr1
 intro w30 hs hb32
 have hs31 := Aside0.mk hs
 clear hs
 have h33 := (h23.up hu29.out).sto hs31.out (Nat.ne_of_lt (Nat.lt_of_lt_of_le (Nat.lt_of_lt_of_le ltb2.out ((Nat.le_trans (hu7.out.size) hu10.out.size))) lbb11.out))
 refine wpp fun K_ h_ => ?_; go_simp; refine h_ _ _ ?_; clear h_ K_
 refine wpList_nil ?_
 (try simp only [Exit.then, Exit.inBlock, ↓reduceIte, Nat.reduceEqDiff])
 refine hK24 _ _ ?_
 refine wp_ret ?_
 (try simp only [Exit.then, Exit.inBlock, ↓reduceIte, Nat.reduceEqDiff])
 refine hQf _ _ _ ?_
 have cr0 := hb32.cell (o := 0) rfl
 have cr1 := hb32.cell (o := 1) rfl
 exact bodyPost_ret (v := .tuple #[.agg #[.int .i64 t25, .int .i64 t26], .int .i64 0]) (by first | rfl | (simp [results, Try.results38, go_sem, cr0, cr1]; done) | (simp [results, Try.results38, go_sem, cr0, cr1]; rfl)) rfl ⟨rfl, ((((((hu4.out.trans hu7.out).trans hu10.out).trans hu13.out).trans hu19.out).trans hu29.out).sto (Nat.le_trans ((Nat.le_trans ((Nat.le_trans (hu4.out.size) hu7.out.size)) hu10.out.size)) lbb11.out) hs31.out)⟩

set_option maxHeartbeats 40000000 in
set_option maxRecDepth 100000 in
theorem impl_CircumquadranceOf.calls (K : Nat) (a0 : Int) (a1 : Int) (a2_0 : Int) (a2_1 : Int) (a3_0 : Int) (a3_1 : Int) (a4_0 : Int) (a4_1 : Int) (r0 : Int) (r1 : Int) (w : World)  (h : impl_CircumquadranceOf.f K a0 a1 a2_0 a2_1 a3_0 a3_1 a4_0 a4_1 = some (r0, r1)) :
    Calls Try.prog 39 #[.int .i64 a0, .int .i64 a1, .agg #[.int .i64 a2_0, .int .i64 a2_1], .agg #[.int .i64 a3_0, .int .i64 a3_1], .agg #[.int .i64 a4_0, .int .i64 a4_1]] w fun e w' => e = .returned (.tuple #[.int .i64 r0, .int .i64 r1]) ∧ Up w w' := by
 have H : (((impl_triangle.f K a0 a1 a2_0 a2_1 a3_0 a3_1 a4_0 a4_1).bind fun t13 => (if (t13 == 0) = true then ((impl_circumcentre.f K a0 a1 a2_0 a2_1 a3_0 a3_1 a4_0 a4_1).bind fun (t21, t22) => ((impl_quadrance.f K a0 a1 t21 t22 a2_0 a2_1).bind fun t24 => some (t24, 0))) else some (0, t13))) : Option (Int × Int)) = some (r0, r1) := h
 clear h
 replace H := Option.bind_eq_some_iff.mp H
 obtain ⟨t13, A14, H⟩ := H
 replace A14 := Aside0.mk A14
 try dsimp only at H
 go_enter Try.func39, Try.ntmps39
 refine wp_hide (fun Qf hQf => ?_)
 refine wp_seq_k (fun K1 hK1 => ?_)
 refine wp_region_lit ?_
 refine step_new (cs := [.int .i64 a2_0, .int .i64 a2_1]) (T := 30) (f := fun b => .pointer (some ⟨b, 0, none⟩)) rfl (by go_simp <;> rfl) ?_
 intro b2 w3 hu lb hb2
 simp only [Act.put, nm1, nm2, nm3, i64_w]
 have lbb2 := Aside0.mk lb
 have ltb2 := Aside0.mk hb2.lt
 clear lb
 have hu4 := Aside0.mk hu
 clear hu
 refine step_new (cs := [.int .i64 a3_0, .int .i64 a3_1]) (T := 30) (f := fun b => .pointer (some ⟨b, 0, none⟩)) rfl (by go_simp <;> rfl) ?_
 intro b5 w6 hu lb hb5
 simp only [Act.put, nm1, nm2, nm3, i64_w]
 have lbb5 := Aside0.mk lb
 have ltb5 := Aside0.mk hb5.lt
 clear lb
 have hu7 := Aside0.mk hu
 clear hu
 refine step_new (cs := [.int .i64 a4_0, .int .i64 a4_1]) (T := 30) (f := fun b => .pointer (some ⟨b, 0, none⟩)) rfl (by go_simp <;> rfl) ?_
 intro b8 w9 hu lb hb8
 simp only [Act.put, nm1, nm2, nm3, i64_w]
 have lbb8 := Aside0.mk lb
 have ltb8 := Aside0.mk hb8.lt
 clear lb
 have hu10 := Aside0.mk hu
 clear hu
 refine wpp fun K_ h_ => ?_; go_simp; refine h_ _ _ ?_; clear h_ K_
 refine wpp fun K_ h_ => ?_; go_simp; refine h_ _ _ ?_; clear h_ K_
 refine wpList_nil ?_
 (try simp only [Exit.then, Exit.inBlock, ↓reduceIte, Nat.reduceEqDiff])
 refine hK1 _ _ ?_
 refine wp_seq_k (fun K11 hK11 => ?_)
 refine wp_seq_k (fun K12 hK12 => ?_)
 refine wp_region_lit ?_
 refine wpp fun K_ h_ => ?_; go_simp; refine h_ _ _ ?_; clear h_ K_
 refine wpp fun K_ h_ => ?_; go_simp; refine h_ _ _ ?_; clear h_ K_
 have cl0 := (hb2.up (hu7.out.trans hu10.out)).cell (o := 0) rfl
 have cl1 := (hb2.up (hu7.out.trans hu10.out)).cell (o := 1) rfl
 refine wpp fun K_ h_ => ?_; go_simp; refine h_ _ _ ?_; clear h_ K_
 clear cl0 cl1
 have cl0 := (hb5.up hu10.out).cell (o := 0) rfl
 have cl1 := (hb5.up hu10.out).cell (o := 1) rfl
 refine wpp fun K_ h_ => ?_; go_simp; refine h_ _ _ ?_; clear h_ K_
 clear cl0 cl1
 have cl0 := hb8.cell (o := 0) rfl
 have cl1 := hb8.cell (o := 1) rfl
 refine wpp fun K_ h_ => ?_; go_simp; refine h_ _ _ ?_; clear h_ K_
 clear cl0 cl1
 refine step_call (wanted_none rfl) (by go_simp <;> rfl) (impl_triangle.calls K a0 a1 a2_0 a2_1 a3_0 a3_1 a4_0 a4_1 t13 w9  A14.out) ?_
 rintro e w15 ⟨rfl, hu⟩
 have hu16 := Aside0.mk hu
 clear hu
 refine ⟨_, rfl, ?_⟩
 simp only [Act.put, nm1, nm2, nm3, i64_w]
 refine wpp fun K_ h_ => ?_; go_simp; refine h_ _ _ ?_; clear h_ K_
 refine wpList_nil ?_
 (try simp only [Exit.then, Exit.inBlock, ↓reduceIte, Nat.reduceEqDiff])
 refine hK12 _ _ ?_
 refine wp_seq_k (fun K17 hK17 => ?_)
 refine wp_region_lit ?_
 refine wpp fun K_ h_ => ?_; go_simp; refine h_ _ _ ?_; clear h_ K_
 refine wpp fun K_ h_ => ?_; go_simp; refine h_ _ _ ?_; clear h_ K_
 refine wpList_nil ?_
 (try simp only [Exit.then, Exit.inBlock, ↓reduceIte, Nat.reduceEqDiff])
 refine hK17 _ _ ?_
 have hm19 := Aside0.mk (Nat.le_trans ((Nat.le_trans ((Nat.le_trans (hu4.out.size) hu7.out.size)) hu10.out.size)) hu16.out.size)
 by_cases c18 : (t13 == 0) = true
 rotate_left
 ·
  rw [if_neg c18] at H; replace c18 := Bool.eq_false_iff.mpr c18
  have c18n : (t13 != 0) = true := by rw [bne, c18]; rfl
  have c18p : ¬ t13 = 0 := fun e => by simp [e] at c18
  simp only [Option.some.injEq, Prod.mk.injEq] at H
  obtain ⟨rfl, rfl⟩ := H
  try simp only [c18, c18n, Bool.not_true, Bool.not_false]
  refine wp_cond_true rfl ?_
  refine wp_seq_k (fun K28 hK28 => ?_)
  refine wp_region_lit ?_
  refine wpp fun K_ h_ => ?_; go_simp; refine h_ _ _ ?_; clear h_ K_
  refine wpp fun K_ h_ => ?_; go_simp; refine h_ _ _ ?_; clear h_ K_
  refine wpp fun K_ h_ => ?_; go_simp; refine h_ _ _ ?_; clear h_ K_
  refine wpList_nil ?_
  (try simp only [Exit.then, Exit.inBlock, ↓reduceIte, Nat.reduceEqDiff])
  refine hK28 _ _ ?_
  refine wp_ret ?_
  (try simp only [Exit.then, Exit.inBlock, ↓reduceIte, Nat.reduceEqDiff])
  refine hQf _ _ _ ?_
  exact bodyPost_ret (v := .tuple #[.int .i64 0, .int .i64 t13]) (by first | rfl | (simp [results, Try.results39, go_sem]; done) | (simp [results, Try.results39, go_sem]; rfl)) rfl ⟨rfl, (((hu4.out.trans hu7.out).trans hu10.out).trans hu16.out)⟩
 rw [if_pos c18] at H
 have c18n : (t13 != 0) = false := by rw [bne, c18]; rfl
 replace H := Option.bind_eq_some_iff.mp H
 obtain ⟨⟨t21, t22⟩, A23, H⟩ := H
 replace A23 := Aside0.mk A23
 try dsimp only at H
 replace H := Option.bind_eq_some_iff.mp H
 obtain ⟨t24, A25, H⟩ := H
 replace A25 := Aside0.mk A25
 try dsimp only at H
 simp only [Option.some.injEq, Prod.mk.injEq] at H
 obtain ⟨rfl, rfl⟩ := H
 try simp only [c18, c18n, Bool.not_true, Bool.not_false]
 refine wp_cond_false rfl ?_
 refine wp_skip ?_
 (try simp only [Exit.then, Exit.inBlock, ↓reduceIte, Nat.reduceEqDiff])
 refine hK11 _ _ ?_
 refine wp_seq_k (fun K20 hK20 => ?_)
 refine' wp_region_up 10 [Slot.det _, Slot.det _, Slot.det _, Slot.det _, Slot.det _, Slot.det _, Slot.det _, Slot.det (.agg #[.int .i64 t21, .int .i64 t22]), Slot.det _, Slot.det (.int .i64 t24)] (by kernel_rfl) (by kernel_rfl) ?main
 case main =>
  simp only [List.take_succ_cons, List.take_zero]
  refine wpK_ops rfl (fun w1 hu => ?_) ?_
  · clear hu
    go_simp
    first | done | rfl
  simp only [Act.put, nm1, nm2, nm3, i64_w]
  refine wpK_ops rfl (fun w1 hu => ?_) ?_
  · clear hu
    go_simp
    first | done | rfl
  simp only [Act.put, nm1, nm2, nm3, i64_w]
  refine wpK_ops rfl (fun w1 hu => ?_) ?_
  · clear hu
    go_simp
    first | done | rfl
  simp only [Act.put, nm1, nm2, nm3, i64_w]
  refine wpK_ops rfl (fun w1 hu => ?_) ?_
  · clear hu
    go_simp
    first | done | rfl
  simp only [Act.put, nm1, nm2, nm3, i64_w]
  refine wpK_ops rfl (fun w1 hu => ?_) ?_
  · have cl0 := ((hb2.up ((hu7.out.trans hu10.out).trans hu16.out)).up ((Up.refl _).drew.trans hu)).cell (o := 0) rfl
    have cl1 := ((hb2.up ((hu7.out.trans hu10.out).trans hu16.out)).up ((Up.refl _).drew.trans hu)).cell (o := 1) rfl
    go_simp
    first | done | rfl
  simp only [Act.put, nm1, nm2, nm3, i64_w]
  refine wpK_ops rfl (fun w1 hu => ?_) ?_
  · have cl0 := ((hb5.up (hu10.out.trans hu16.out)).up ((Up.refl _).drew.trans hu)).cell (o := 0) rfl
    have cl1 := ((hb5.up (hu10.out.trans hu16.out)).up ((Up.refl _).drew.trans hu)).cell (o := 1) rfl
    go_simp
    first | done | rfl
  simp only [Act.put, nm1, nm2, nm3, i64_w]
  refine wpK_ops rfl (fun w1 hu => ?_) ?_
  · have cl0 := ((hb8.up hu16.out).up ((Up.refl _).drew.trans hu)).cell (o := 0) rfl
    have cl1 := ((hb8.up hu16.out).up ((Up.refl _).drew.trans hu)).cell (o := 1) rfl
    go_simp
    first | done | rfl
  simp only [Act.put, nm1, nm2, nm3, i64_w]
  refine wpK_ops rfl (fun w1 hu => ?_) ?_
  · have hcl := (impl_circumcentre.calls K a0 a1 a2_0 a2_1 a3_0 a3_1 a4_0 a4_1 t21 t22 w1  A23.out)
    clear hu
    replace hcl := Aside0.mk hcl
    go_simp
    exact hcl.out
  simp only [Act.put, nm1, nm2, nm3, i64_w]
  refine wpK_ops rfl (fun w1 hu => ?_) ?_
  · have cl0 := ((hb2.up ((hu7.out.trans hu10.out).trans hu16.out)).up ((Up.refl _).drew.trans hu)).cell (o := 0) rfl
    have cl1 := ((hb2.up ((hu7.out.trans hu10.out).trans hu16.out)).up ((Up.refl _).drew.trans hu)).cell (o := 1) rfl
    go_simp
    first | done | rfl
  simp only [Act.put, nm1, nm2, nm3, i64_w]
  refine wpK_ops rfl (fun w1 hu => ?_) ?_
  · have hcl := (impl_quadrance.calls K a0 a1 t21 t22 a2_0 a2_1 t24 w1  A25.out)
    clear hu
    replace hcl := Aside0.mk hcl
    go_simp
    exact hcl.out
  simp only [Act.put, nm1, nm2, nm3, i64_w]
  refine wpK_nil ?_
  intro w26 hu hap
  simp only [List.drop_succ_cons, List.drop_zero]
  replace hu := (Up.refl _).drew.trans hu
  clear hap
  have hu27 := Aside0.mk hu
  clear hu
  refine wpp fun K_ h_ => ?_; go_simp; refine h_ _ _ ?_; clear h_ K_
  refine wpp fun K_ h_ => ?_; go_simp; refine h_ _ _ ?_; clear h_ K_
  refine wpList_nil ?_
  (try simp only [Exit.then, Exit.inBlock, ↓reduceIte, Nat.reduceEqDiff])
  refine hK20 _ _ ?_
  refine wp_ret ?_
  (try simp only [Exit.then, Exit.inBlock, ↓reduceIte, Nat.reduceEqDiff])
  refine hQf _ _ _ ?_
  exact bodyPost_ret (v := .tuple #[.int .i64 t24, .int .i64 0]) (by first | rfl | (simp [results, Try.results39, go_sem]; done) | (simp [results, Try.results39, go_sem]; rfl)) rfl ⟨rfl, ((((hu4.out.trans hu7.out).trans hu10.out).trans hu16.out).trans hu27.out)⟩

set_option maxHeartbeats 40000000 in
set_option maxRecDepth 100000 in
theorem spec_l02Product.calls (K : Nat) (a0 : Int) (a1 : Int) (a2_0 : Int) (a2_1 : Int) (a3_0 : Int) (a3_1 : Int) (r0 : Int) (w : World)  (h : spec_l02Product.f K a0 a1 a2_0 a2_1 a3_0 a3_1 = some (r0)) :
    Calls Try.prog 186 #[.int .i64 a0, .int .i64 a1, .agg #[.int .i64 a2_0, .int .i64 a2_1], .agg #[.int .i64 a3_0, .int .i64 a3_1]] w fun e w' => e = .returned (.int .i64 r0) ∧ Up w w' := by
 have H : ((if (a1 == 0) = true then ((spec_l01Mod.f K (wrap64 ((wrap64 (a2_0 * a3_0)) + (wrap64 (a2_1 * a3_1)))) a0).bind fun t13 => some t13) else (if (a1 == 1) = true then ((spec_l01Mod.f K (wrap64 ((wrap64 (a2_0 * a3_0)) - (wrap64 (a2_1 * a3_1)))) a0).bind fun t20 => some t20) else ((spec_l01Mod.f K (wrap64 ((wrap64 (a2_0 * a3_1)) + (wrap64 (a2_1 * a3_0)))) a0).bind fun t25 => some t25))) : Option (Int)) = some (r0) := h
 clear h
 go_enter Try.func186, Try.ntmps186
 refine wp_hide (fun Qf hQf => ?_)
 refine wp_seq_k (fun K1 hK1 => ?_)
 refine wp_region_lit ?_
 refine step_new (cs := [.int .i64 a2_0, .int .i64 a2_1]) (T := 30) (f := fun b => .pointer (some ⟨b, 0, none⟩)) rfl (by go_simp <;> rfl) ?_
 intro b2 w3 hu lb hb2
 simp only [Act.put, nm1, nm2, nm3, i64_w]
 have lbb2 := Aside0.mk lb
 have ltb2 := Aside0.mk hb2.lt
 clear lb
 have hu4 := Aside0.mk hu
 clear hu
 refine step_new (cs := [.int .i64 a3_0, .int .i64 a3_1]) (T := 30) (f := fun b => .pointer (some ⟨b, 0, none⟩)) rfl (by go_simp <;> rfl) ?_
 intro b5 w6 hu lb hb5
 simp only [Act.put, nm1, nm2, nm3, i64_w]
 have lbb5 := Aside0.mk lb
 have ltb5 := Aside0.mk hb5.lt
 clear lb
 have hu7 := Aside0.mk hu
 clear hu
 refine wpp fun K_ h_ => ?_; go_simp; refine h_ _ _ ?_; clear h_ K_
 refine wpList_nil ?_
 (try simp only [Exit.then, Exit.inBlock, ↓reduceIte, Nat.reduceEqDiff])
 refine hK1 _ _ ?_
 refine wp_seq_k (fun K8 hK8 => ?_)
 refine wp_seq_k (fun K9 hK9 => ?_)
 refine wp_region_lit ?_
 refine wpp fun K_ h_ => ?_; go_simp; refine h_ _ _ ?_; clear h_ K_
 refine wpList_nil ?_
 (try simp only [Exit.then, Exit.inBlock, ↓reduceIte, Nat.reduceEqDiff])
 refine hK9 _ _ ?_
 refine wp_block ?_
 refine wp_seq_k (fun K10 hK10 => ?_)
 refine wp_region_lit ?_
 refine wpp fun K_ h_ => ?_; go_simp; refine h_ _ _ ?_; clear h_ K_
 refine wpp fun K_ h_ => ?_; go_simp; refine h_ _ _ ?_; clear h_ K_
 refine wpList_nil ?_
 (try simp only [Exit.then, Exit.inBlock, ↓reduceIte, Nat.reduceEqDiff])
 refine hK10 _ _ ?_
 by_cases c11 : (a1 == 0) = true
 ·
  rw [if_pos c11] at H
  have c11n : (a1 != 0) = false := by rw [bne, c11]; rfl
  replace H := Option.bind_eq_some_iff.mp H
  obtain ⟨t13, A14, H⟩ := H
  replace A14 := Aside0.mk A14
  try dsimp only at H
  obtain rfl := Option.some.inj H
  try simp only [c11, c11n, Bool.not_true, Bool.not_false]
  refine wp_cond_true rfl ?_
  refine wp_seq_k (fun K12 hK12 => ?_)
  refine wp_region_lit ?_
  refine wpp fun K_ h_ => ?_; go_simp; refine h_ _ _ ?_; clear h_ K_
  have cl0 := (hb2.up hu7.out).cell (o := 0) rfl
  refine wpp fun K_ h_ => ?_; go_simp; refine h_ _ _ ?_; clear h_ K_
  clear cl0
  refine wpp fun K_ h_ => ?_; go_simp; refine h_ _ _ ?_; clear h_ K_
  have cl0 := hb5.cell (o := 0) rfl
  refine wpp fun K_ h_ => ?_; go_simp; refine h_ _ _ ?_; clear h_ K_
  clear cl0
  refine wpp fun K_ h_ => ?_; go_simp; refine h_ _ _ ?_; clear h_ K_
  refine wpp fun K_ h_ => ?_; go_simp; refine h_ _ _ ?_; clear h_ K_
  have cl0 := (hb2.up hu7.out).cell (o := 1) rfl
  refine wpp fun K_ h_ => ?_; go_simp; refine h_ _ _ ?_; clear h_ K_
  clear cl0
  refine wpp fun K_ h_ => ?_; go_simp; refine h_ _ _ ?_; clear h_ K_
  have cl0 := hb5.cell (o := 1) rfl
  refine wpp fun K_ h_ => ?_; go_simp; refine h_ _ _ ?_; clear h_ K_
  clear cl0
  refine wpp fun K_ h_ => ?_; go_simp; refine h_ _ _ ?_; clear h_ K_
  refine wpp fun K_ h_ => ?_; go_simp; refine h_ _ _ ?_; clear h_ K_
  refine wpp fun K_ h_ => ?_; go_simp; refine h_ _ _ ?_; clear h_ K_
  refine step_call (wanted_none rfl) (by go_simp <;> rfl) (spec_l01Mod.calls K (wrap64 ((wrap64 (a2_0 * a3_0)) + (wrap64 (a2_1 * a3_1)))) a0 t13 w6  A14.out) ?_
  rintro e w15 ⟨rfl, hu⟩
  have hu16 := Aside0.mk hu
  clear hu
  refine ⟨_, rfl, ?_⟩
  simp only [Act.put, nm1, nm2, nm3, i64_w]
  refine wpp fun K_ h_ => ?_; go_simp; refine h_ _ _ ?_; clear h_ K_
  refine wpList_nil ?_
  (try simp only [Exit.then, Exit.inBlock, ↓reduceIte, Nat.reduceEqDiff])
  refine hK12 _ _ ?_
  refine wp_ret ?_
  (try simp only [Exit.then, Exit.inBlock, ↓reduceIte, Nat.reduceEqDiff])
  refine hQf _ _ _ ?_
  exact bodyPost_ret (v := .int .i64 t13) (by first | rfl | (simp [results, Try.results186, go_sem]; done) | (simp [results, Try.results186, go_sem]; rfl)) rfl ⟨rfl, ((hu4.out.trans hu7.out).trans hu16.out)⟩
 rw [if_neg c11] at H; replace c11 := Bool.eq_false_iff.mpr c11
 have c11n : (a1 != 0) = true := by rw [bne, c11]; rfl
 have c11p : ¬ a1 = 0 := fun e => by simp [e] at c11
 try simp only [c11, c11n, Bool.not_true, Bool.not_false]
 refine wp_cond_false rfl ?_
 refine wp_seq_k (fun K17 hK17 => ?_)
 refine wp_region_lit ?_
 refine wpp fun K_ h_ => ?_; go_simp; refine h_ _ _ ?_; clear h_ K_
 refine wpp fun K_ h_ => ?_; go_simp; refine h_ _ _ ?_; clear h_ K_
 refine wpList_nil ?_
 (try simp only [Exit.then, Exit.inBlock, ↓reduceIte, Nat.reduceEqDiff])
 refine hK17 _ _ ?_
 by_cases c18 : (a1 == 1) = true
 ·
  rw [if_pos c18] at H
  have c18n : (a1 != 1) = false := by rw [bne, c18]; rfl
  replace H := Option.bind_eq_some_iff.mp H
  obtain ⟨t20, A21, H⟩ := H
  replace A21 := Aside0.mk A21
  try dsimp only at H
  obtain rfl := Option.some.inj H
  try simp only [c18, c18n, Bool.not_true, Bool.not_false]
  refine wp_cond_true rfl ?_
  refine wp_seq_k (fun K19 hK19 => ?_)
  refine wp_region_lit ?_
  refine wpp fun K_ h_ => ?_; go_simp; refine h_ _ _ ?_; clear h_ K_
  have cl0 := (hb2.up hu7.out).cell (o := 0) rfl
  refine wpp fun K_ h_ => ?_; go_simp; refine h_ _ _ ?_; clear h_ K_
  clear cl0
  refine wpp fun K_ h_ => ?_; go_simp; refine h_ _ _ ?_; clear h_ K_
  have cl0 := hb5.cell (o := 0) rfl
  refine wpp fun K_ h_ => ?_; go_simp; refine h_ _ _ ?_; clear h_ K_
  clear cl0
  refine wpp fun K_ h_ => ?_; go_simp; refine h_ _ _ ?_; clear h_ K_
  refine wpp fun K_ h_ => ?_; go_simp; refine h_ _ _ ?_; clear h_ K_
  have cl0 := (hb2.up hu7.out).cell (o := 1) rfl
  refine wpp fun K_ h_ => ?_; go_simp; refine h_ _ _ ?_; clear h_ K_
  clear cl0
  refine wpp fun K_ h_ => ?_; go_simp; refine h_ _ _ ?_; clear h_ K_
  have cl0 := hb5.cell (o := 1) rfl
  refine wpp fun K_ h_ => ?_; go_simp; refine h_ _ _ ?_; clear h_ K_
  clear cl0
  refine wpp fun K_ h_ => ?_; go_simp; refine h_ _ _ ?_; clear h_ K_
  refine wpp fun K_ h_ => ?_; go_simp; refine h_ _ _ ?_; clear h_ K_
  refine wpp fun K_ h_ => ?_; go_simp; refine h_ _ _ ?_; clear h_ K_
  refine step_call (wanted_none rfl) (by go_simp <;> rfl) (spec_l01Mod.calls K (wrap64 ((wrap64 (a2_0 * a3_0)) - (wrap64 (a2_1 * a3_1)))) a0 t20 w6  A21.out) ?_
  rintro e w22 ⟨rfl, hu⟩
  have hu23 := Aside0.mk hu
  clear hu
  refine ⟨_, rfl, ?_⟩
  simp only [Act.put, nm1, nm2, nm3, i64_w]
  refine wpp fun K_ h_ => ?_; go_simp; refine h_ _ _ ?_; clear h_ K_
  refine wpList_nil ?_
  (try simp only [Exit.then, Exit.inBlock, ↓reduceIte, Nat.reduceEqDiff])
  refine hK19 _ _ ?_
  refine wp_ret ?_
  (try simp only [Exit.then, Exit.inBlock, ↓reduceIte, Nat.reduceEqDiff])
  refine hQf _ _ _ ?_
  exact bodyPost_ret (v := .int .i64 t20) (by first | rfl | (simp [results, Try.results186, go_sem]; done) | (simp [results, Try.results186, go_sem]; rfl)) rfl ⟨rfl, ((hu4.out.trans hu7.out).trans hu23.out)⟩
 rw [if_neg c18] at H; replace c18 := Bool.eq_false_iff.mpr c18
 have c18n : (a1 != 1) = true := by rw [bne, c18]; rfl
 have c18p : ¬ a1 = 1 := fun e => by simp [e] at c18
 replace H := Option.bind_eq_some_iff.mp H
 obtain ⟨t25, A26, H⟩ := H
 replace A26 := Aside0.mk A26
 try dsimp only at H
 obtain rfl := Option.some.inj H
 try simp only [c18, c18n, Bool.not_true, Bool.not_false]
 refine wp_cond_false rfl ?_
 refine wp_skip ?_
 (try simp only [Exit.then, Exit.inBlock, ↓reduceIte, Nat.reduceEqDiff])
 refine hK8 _ _ ?_
 refine wp_seq_k (fun K24 hK24 => ?_)
 refine wp_region_lit ?_
 refine wpp fun K_ h_ => ?_; go_simp; refine h_ _ _ ?_; clear h_ K_
 have cl0 := (hb2.up hu7.out).cell (o := 0) rfl
 refine wpp fun K_ h_ => ?_; go_simp; refine h_ _ _ ?_; clear h_ K_
 clear cl0
 refine wpp fun K_ h_ => ?_; go_simp; refine h_ _ _ ?_; clear h_ K_
 have cl0 := hb5.cell (o := 1) rfl
 refine wpp fun K_ h_ => ?_; go_simp; refine h_ _ _ ?_; clear h_ K_
 clear cl0
 refine wpp fun K_ h_ => ?_; go_simp; refine h_ _ _ ?_; clear h_ K_
 refine wpp fun K_ h_ => ?_; go_simp; refine h_ _ _ ?_; clear h_ K_
 have cl0 := (hb2.up hu7.out).cell (o := 1) rfl
 refine wpp fun K_ h_ => ?_; go_simp; refine h_ _ _ ?_; clear h_ K_
 clear cl0
 refine wpp fun K_ h_ => ?_; go_simp; refine h_ _ _ ?_; clear h_ K_
 have cl0 := hb5.cell (o := 0) rfl
 refine wpp fun K_ h_ => ?_; go_simp; refine h_ _ _ ?_; clear h_ K_
 clear cl0
 refine wpp fun K_ h_ => ?_; go_simp; refine h_ _ _ ?_; clear h_ K_
 refine wpp fun K_ h_ => ?_; go_simp; refine h_ _ _ ?_; clear h_ K_
 refine wpp fun K_ h_ => ?_; go_simp; refine h_ _ _ ?_; clear h_ K_
 refine step_call (wanted_none rfl) (by go_simp <;> rfl) (spec_l01Mod.calls K (wrap64 ((wrap64 (a2_0 * a3_1)) + (wrap64 (a2_1 * a3_0)))) a0 t25 w6  A26.out) ?_
 rintro e w27 ⟨rfl, hu⟩
 have hu28 := Aside0.mk hu
 clear hu
 refine ⟨_, rfl, ?_⟩
 simp only [Act.put, nm1, nm2, nm3, i64_w]
 refine wpp fun K_ h_ => ?_; go_simp; refine h_ _ _ ?_; clear h_ K_
 refine wpList_nil ?_
 (try simp only [Exit.then, Exit.inBlock, ↓reduceIte, Nat.reduceEqDiff])
 refine hK24 _ _ ?_
 refine wp_ret ?_
 (try simp only [Exit.then, Exit.inBlock, ↓reduceIte, Nat.reduceEqDiff])
 refine hQf _ _ _ ?_
 exact bodyPost_ret (v := .int .i64 t25) (by first | rfl | (simp [results, Try.results186, go_sem]; done) | (simp [results, Try.results186, go_sem]; rfl)) rfl ⟨rfl, ((hu4.out.trans hu7.out).trans hu28.out)⟩

set_option maxHeartbeats 40000000 in
set_option maxRecDepth 100000 in
theorem spec_l02Quadrance.calls (K : Nat) (a0 : Int) (a1 : Int) (a2_0 : Int) (a2_1 : Int) (a3_0 : Int) (a3_1 : Int) (r0 : Int) (w : World)  (h : spec_l02Quadrance.f K a0 a1 a2_0 a2_1 a3_0 a3_1 = some (r0)) :
    Calls Try.prog 123 #[.int .i64 a0, .int .i64 a1, .agg #[.int .i64 a2_0, .int .i64 a2_1], .agg #[.int .i64 a3_0, .int .i64 a3_1]] w fun e w' => e = .returned (.int .i64 r0) ∧ Up w w' := by
 have H : (((spec_l01Minus.f K a0 a3_0 a3_1 a2_0 a2_1).bind fun (t9, t10) => ((spec_l02Product.f K a0 a1 t9 t10 t9 t10).bind fun t21 => some t21)) : Option (Int)) = some (r0) := h
 clear h
 replace H := Option.bind_eq_some_iff.mp H
 obtain ⟨⟨t9, t10⟩, A11, H⟩ := H
 replace A11 := Aside0.mk A11
 try dsimp only at H
 replace H := Option.bind_eq_some_iff.mp H
 obtain ⟨t21, A22, H⟩ := H
 replace A22 := Aside0.mk A22
 try dsimp only at H
 obtain rfl := Option.some.inj H
 go_enter Try.func123, Try.ntmps123
 refine wp_hide (fun Qf hQf => ?_)
 refine wp_seq_k (fun K1 hK1 => ?_)
 refine wp_region_lit ?_
 refine step_new (cs := [.int .i64 a2_0, .int .i64 a2_1]) (T := 30) (f := fun b => .pointer (some ⟨b, 0, none⟩)) rfl (by go_simp <;> rfl) ?_
 intro b2 w3 hu lb hb2
 simp only [Act.put, nm1, nm2, nm3, i64_w]
 have lbb2 := Aside0.mk lb
 have ltb2 := Aside0.mk hb2.lt
 clear lb
 have hu4 := Aside0.mk hu
 clear hu
 refine step_new (cs := [.int .i64 a3_0, .int .i64 a3_1]) (T := 30) (f := fun b => .pointer (some ⟨b, 0, none⟩)) rfl (by go_simp <;> rfl) ?_
 intro b5 w6 hu lb hb5
 simp only [Act.put, nm1, nm2, nm3, i64_w]
 have lbb5 := Aside0.mk lb
 have ltb5 := Aside0.mk hb5.lt
 clear lb
 have hu7 := Aside0.mk hu
 clear hu
 refine wpp fun K_ h_ => ?_; go_simp; refine h_ _ _ ?_; clear h_ K_
 refine wpList_nil ?_
 (try simp only [Exit.then, Exit.inBlock, ↓reduceIte, Nat.reduceEqDiff])
 refine hK1 _ _ ?_
 refine wp_seq_k (fun K8 hK8 => ?_)
 refine wp_region_lit ?_
 refine wpp fun K_ h_ => ?_; go_simp; refine h_ _ _ ?_; clear h_ K_
 have cl0 := hb5.cell (o := 0) rfl
 have cl1 := hb5.cell (o := 1) rfl
 refine wpp fun K_ h_ => ?_; go_simp; refine h_ _ _ ?_; clear h_ K_
 clear cl0 cl1
 have cl0 := (hb2.up hu7.out).cell (o := 0) rfl
 have cl1 := (hb2.up hu7.out).cell (o := 1) rfl
 refine wpp fun K_ h_ => ?_; go_simp; refine h_ _ _ ?_; clear h_ K_
 clear cl0 cl1
 refine step_call (wanted_none rfl) (by go_simp <;> rfl) (spec_l01Minus.calls K a0 a3_0 a3_1 a2_0 a2_1 t9 t10 w6  A11.out) ?_
 rintro e w12 ⟨rfl, hu⟩
 have hu13 := Aside0.mk hu
 clear hu
 refine ⟨_, rfl, ?_⟩
 simp only [Act.put, nm1, nm2, nm3, i64_w]
 refine step_new (cs := [.int .i64 0, .int .i64 0]) (T := 30) (f := fun b => .pointer (some ⟨b, 0, none⟩)) rfl (by go_simp <;> rfl) ?_
 intro b14 w15 hu lb hb14
 simp only [Act.put, nm1, nm2, nm3, i64_w]
 have lbb14 := Aside0.mk lb
 have ltb14 := Aside0.mk hb14.lt
 clear lb
 have hu16 := Aside0.mk hu
 clear hu
 have hB0 := hb14
 have cl0 := hB0.cell (o := 0) rfl
 have fr0 := hB0.free 0
 have cl1 := hB0.cell (o := 1) rfl
 have fr1 := hB0.free 1
 refine step_store (b := b14) (cs' := [.int .i64 t9, .int .i64 t10]) (T := 30) (W' := ((w15.setCell ⟨b14, 0, none⟩ (.int .i64 t9)).setCell ⟨b14, 1, none⟩ (.int .i64 t10))) rfl rfl (by go_simp <;> rfl) (((Sto.refl _ _).setCell 0 _).setCell 1 _) (((hB0).setCell 0 _).setCell 1 _) ?_
 clear hB0 cl0 fr0 cl1 fr1
 intro w17 hs hb19
 have hs18 := Aside0.mk hs
 clear hs
 refine wpList_nil ?_
 (try simp only [Exit.then, Exit.inBlock, ↓reduceIte, Nat.reduceEqDiff])
 refine hK8 _ _ ?_
 refine wp_seq_k (fun K20 hK20 => ?_)
 refine wp_region_lit ?_
 refine wpp fun K_ h_ => ?_; go_simp; refine h_ _ _ ?_; clear h_ K_
 refine wpp fun K_ h_ => ?_; go_simp; refine h_ _ _ ?_; clear h_ K_
 have cl0 := hb19.cell (o := 0) rfl
 have cl1 := hb19.cell (o := 1) rfl
 refine wpp fun K_ h_ => ?_; go_simp; refine h_ _ _ ?_; clear h_ K_
 clear cl0 cl1
 have cl0 := hb19.cell (o := 0) rfl
 have cl1 := hb19.cell (o := 1) rfl
 refine wpp fun K_ h_ => ?_; go_simp; refine h_ _ _ ?_; clear h_ K_
 clear cl0 cl1
 refine step_call (wanted_none rfl) (by go_simp <;> rfl) (spec_l02Product.calls K a0 a1 t9 t10 t9 t10 t21 w17  A22.out) ?_
 rintro e w23 ⟨rfl, hu⟩
 have hu24 := Aside0.mk hu
 clear hu
 refine ⟨_, rfl, ?_⟩
 simp only [Act.put, nm1, nm2, nm3, i64_w]
 refine wpp fun K_ h_ => ?_; go_simp; refine h_ _ _ ?_; clear h_ K_
 refine wpList_nil ?_
 (try simp only [Exit.then, Exit.inBlock, ↓reduceIte, Nat.reduceEqDiff])
 refine hK20 _ _ ?_
 refine wp_ret ?_
 (try simp only [Exit.then, Exit.inBlock, ↓reduceIte, Nat.reduceEqDiff])
 refine hQf _ _ _ ?_
 exact bodyPost_ret (v := .int .i64 t21) (by first | rfl | (simp [results, Try.results123, go_sem]; done) | (simp [results, Try.results123, go_sem]; rfl)) rfl ⟨rfl, (((((hu4.out.trans hu7.out).trans hu13.out).trans hu16.out).sto (Nat.le_trans ((Nat.le_trans ((Nat.le_trans (hu4.out.size) hu7.out.size)) hu13.out.size)) lbb14.out) hs18.out).trans hu24.out)⟩

set_option maxHeartbeats 40000000 in
set_option maxRecDepth 100000 in
theorem spec_CircumquadranceOf.calls (K : Nat) (a0 : Int) (a1 : Int) (a2_0 : Int) (a2_1 : Int) (a3_0 : Int) (a3_1 : Int) (a4_0 : Int) (a4_1 : Int) (r0 : Int) (r1 : Int) (w : World)  (h : spec_CircumquadranceOf.f K a0 a1 a2_0 a2_1 a3_0 a3_1 a4_0 a4_1 = some (r0, r1)) :
    Calls Try.prog 40 #[.int .i64 a0, .int .i64 a1, .agg #[.int .i64 a2_0, .int .i64 a2_1], .agg #[.int .i64 a3_0, .int .i64 a3_1], .agg #[.int .i64 a4_0, .int .i64 a4_1]] w fun e w' => e = .returned (.tuple #[.int .i64 r0, .int .i64 r1]) ∧ Up w w' := by
 have H : (((spec_l04Code.f K a0 a1 a2_0 a2_1 a3_0 a3_1 a4_0 a4_1).bind fun t13 => (if (t13 == 0) = true then ((spec_l04Circumcentre.f K a0 a1 a2_0 a2_1 a3_0 a3_1 a4_0 a4_1).bind fun (t21, t22) => ((spec_l02Quadrance.f K a0 a1 t21 t22 a2_0 a2_1).bind fun t24 => some (t24, 0))) else some (0, t13))) : Option (Int × Int)) = some (r0, r1) := h
 clear h
 replace H := Option.bind_eq_some_iff.mp H
 obtain ⟨t13, A14, H⟩ := H
 replace A14 := Aside0.mk A14
 try dsimp only at H
 go_enter Try.func40, Try.ntmps40
 refine wp_hide (fun Qf hQf => ?_)
 refine wp_seq_k (fun K1 hK1 => ?_)
 refine wp_region_lit ?_
 refine step_new (cs := [.int .i64 a2_0, .int .i64 a2_1]) (T := 30) (f := fun b => .pointer (some ⟨b, 0, none⟩)) rfl (by go_simp <;> rfl) ?_
 intro b2 w3 hu lb hb2
 simp only [Act.put, nm1, nm2, nm3, i64_w]
 have lbb2 := Aside0.mk lb
 have ltb2 := Aside0.mk hb2.lt
 clear lb
 have hu4 := Aside0.mk hu
 clear hu
 refine step_new (cs := [.int .i64 a3_0, .int .i64 a3_1]) (T := 30) (f := fun b => .pointer (some ⟨b, 0, none⟩)) rfl (by go_simp <;> rfl) ?_
 intro b5 w6 hu lb hb5
 simp only [Act.put, nm1, nm2, nm3, i64_w]
 have lbb5 := Aside0.mk lb
 have ltb5 := Aside0.mk hb5.lt
 clear lb
 have hu7 := Aside0.mk hu
 clear hu
 refine step_new (cs := [.int .i64 a4_0, .int .i64 a4_1]) (T := 30) (f := fun b => .pointer (some ⟨b, 0, none⟩)) rfl (by go_simp <;> rfl) ?_
 intro b8 w9 hu lb hb8
 simp only [Act.put, nm1, nm2, nm3, i64_w]
 have lbb8 := Aside0.mk lb
 have ltb8 := Aside0.mk hb8.lt
 clear lb
 have hu10 := Aside0.mk hu
 clear hu
 refine wpp fun K_ h_ => ?_; go_simp; refine h_ _ _ ?_; clear h_ K_
 refine wpp fun K_ h_ => ?_; go_simp; refine h_ _ _ ?_; clear h_ K_
 refine wpList_nil ?_
 (try simp only [Exit.then, Exit.inBlock, ↓reduceIte, Nat.reduceEqDiff])
 refine hK1 _ _ ?_
 refine wp_seq_k (fun K11 hK11 => ?_)
 refine wp_seq_k (fun K12 hK12 => ?_)
 refine wp_region_lit ?_
 refine wpp fun K_ h_ => ?_; go_simp; refine h_ _ _ ?_; clear h_ K_
 refine wpp fun K_ h_ => ?_; go_simp; refine h_ _ _ ?_; clear h_ K_
 have cl0 := (hb2.up (hu7.out.trans hu10.out)).cell (o := 0) rfl
 have cl1 := (hb2.up (hu7.out.trans hu10.out)).cell (o := 1) rfl
 refine wpp fun K_ h_ => ?_; go_simp; refine h_ _ _ ?_; clear h_ K_
 clear cl0 cl1
 have cl0 := (hb5.up hu10.out).cell (o := 0) rfl
 have cl1 := (hb5.up hu10.out).cell (o := 1) rfl
 refine wpp fun K_ h_ => ?_; go_simp; refine h_ _ _ ?_; clear h_ K_
 clear cl0 cl1
 have cl0 := hb8.cell (o := 0) rfl
 have cl1 := hb8.cell (o := 1) rfl
 refine wpp fun K_ h_ => ?_; go_simp; refine h_ _ _ ?_; clear h_ K_
 clear cl0 cl1
 refine step_call (wanted_none rfl) (by go_simp <;> rfl) (spec_l04Code.calls K a0 a1 a2_0 a2_1 a3_0 a3_1 a4_0 a4_1 t13 w9  A14.out) ?_
 rintro e w15 ⟨rfl, hu⟩
 have hu16 := Aside0.mk hu
 clear hu
 refine ⟨_, rfl, ?_⟩
 simp only [Act.put, nm1, nm2, nm3, i64_w]
 refine wpp fun K_ h_ => ?_; go_simp; refine h_ _ _ ?_; clear h_ K_
 refine wpList_nil ?_
 (try simp only [Exit.then, Exit.inBlock, ↓reduceIte, Nat.reduceEqDiff])
 refine hK12 _ _ ?_
 refine wp_seq_k (fun K17 hK17 => ?_)
 refine wp_region_lit ?_
 refine wpp fun K_ h_ => ?_; go_simp; refine h_ _ _ ?_; clear h_ K_
 refine wpp fun K_ h_ => ?_; go_simp; refine h_ _ _ ?_; clear h_ K_
 refine wpList_nil ?_
 (try simp only [Exit.then, Exit.inBlock, ↓reduceIte, Nat.reduceEqDiff])
 refine hK17 _ _ ?_
 have hm19 := Aside0.mk (Nat.le_trans ((Nat.le_trans ((Nat.le_trans (hu4.out.size) hu7.out.size)) hu10.out.size)) hu16.out.size)
 by_cases c18 : (t13 == 0) = true
 rotate_left
 ·
  rw [if_neg c18] at H; replace c18 := Bool.eq_false_iff.mpr c18
  have c18n : (t13 != 0) = true := by rw [bne, c18]; rfl
  have c18p : ¬ t13 = 0 := fun e => by simp [e] at c18
  simp only [Option.some.injEq, Prod.mk.injEq] at H
  obtain ⟨rfl, rfl⟩ := H
  try simp only [c18, c18n, Bool.not_true, Bool.not_false]
  refine wp_cond_true rfl ?_
  refine wp_seq_k (fun K28 hK28 => ?_)
  refine wp_region_lit ?_
  refine wpp fun K_ h_ => ?_; go_simp; refine h_ _ _ ?_; clear h_ K_
  refine wpp fun K_ h_ => ?_; go_simp; refine h_ _ _ ?_; clear h_ K_
  refine wpp fun K_ h_ => ?_; go_simp; refine h_ _ _ ?_; clear h_ K_
  refine wpList_nil ?_
  (try simp only [Exit.then, Exit.inBlock, ↓reduceIte, Nat.reduceEqDiff])
  refine hK28 _ _ ?_
  refine wp_ret ?_
  (try simp only [Exit.then, Exit.inBlock, ↓reduceIte, Nat.reduceEqDiff])
  refine hQf _ _ _ ?_
  exact bodyPost_ret (v := .tuple #[.int .i64 0, .int .i64 t13]) (by first | rfl | (simp [results, Try.results40, go_sem]; done) | (simp [results, Try.results40, go_sem]; rfl)) rfl ⟨rfl, (((hu4.out.trans hu7.out).trans hu10.out).trans hu16.out)⟩
 rw [if_pos c18] at H
 have c18n : (t13 != 0) = false := by rw [bne, c18]; rfl
 replace H := Option.bind_eq_some_iff.mp H
 obtain ⟨⟨t21, t22⟩, A23, H⟩ := H
 replace A23 := Aside0.mk A23
 try dsimp only at H
 replace H := Option.bind_eq_some_iff.mp H
 obtain ⟨t24, A25, H⟩ := H
 replace A25 := Aside0.mk A25
 try dsimp only at H
 simp only [Option.some.injEq, Prod.mk.injEq] at H
 obtain ⟨rfl, rfl⟩ := H
 try simp only [c18, c18n, Bool.not_true, Bool.not_false]
 refine wp_cond_false rfl ?_
 refine wp_skip ?_
 (try simp only [Exit.then, Exit.inBlock, ↓reduceIte, Nat.reduceEqDiff])
 refine hK11 _ _ ?_
 refine wp_seq_k (fun K20 hK20 => ?_)
 refine' wp_region_up 10 [Slot.det _, Slot.det _, Slot.det _, Slot.det _, Slot.det _, Slot.det _, Slot.det _, Slot.det (.agg #[.int .i64 t21, .int .i64 t22]), Slot.det _, Slot.det (.int .i64 t24)] (by kernel_rfl) (by kernel_rfl) ?main
 case main =>
  simp only [List.take_succ_cons, List.take_zero]
  refine wpK_ops rfl (fun w1 hu => ?_) ?_
  · clear hu
    go_simp
    first | done | rfl
  simp only [Act.put, nm1, nm2, nm3, i64_w]
  refine wpK_ops rfl (fun w1 hu => ?_) ?_
  · clear hu
    go_simp
    first | done | rfl
  simp only [Act.put, nm1, nm2, nm3, i64_w]
  refine wpK_ops rfl (fun w1 hu => ?_) ?_
  · clear hu
    go_simp
    first | done | rfl
  simp only [Act.put, nm1, nm2, nm3, i64_w]
  refine wpK_ops rfl (fun w1 hu => ?_) ?_
  · clear hu
    go_simp
    first | done | rfl
  simp only [Act.put, nm1, nm2, nm3, i64_w]
  refine wpK_ops rfl (fun w1 hu => ?_) ?_
  · have cl0 := ((hb2.up ((hu7.out.trans hu10.out).trans hu16.out)).up ((Up.refl _).drew.trans hu)).cell (o := 0) rfl
    have cl1 := ((hb2.up ((hu7.out.trans hu10.out).trans hu16.out)).up ((Up.refl _).drew.trans hu)).cell (o := 1) rfl
    go_simp
    first | done | rfl
  simp only [Act.put, nm1, nm2, nm3, i64_w]
  refine wpK_ops rfl (fun w1 hu => ?_) ?_
  · have cl0 := ((hb5.up (hu10.out.trans hu16.out)).up ((Up.refl _).drew.trans hu)).cell (o := 0) rfl
    have cl1 := ((hb5.up (hu10.out.trans hu16.out)).up ((Up.refl _).drew.trans hu)).cell (o := 1) rfl
    go_simp
    first | done | rfl
  simp only [Act.put, nm1, nm2, nm3, i64_w]
  refine wpK_ops rfl (fun w1 hu => ?_) ?_
  · have cl0 := ((hb8.up hu16.out).up ((Up.refl _).drew.trans hu)).cell (o := 0) rfl
    have cl1 := ((hb8.up hu16.out).up ((Up.refl _).drew.trans hu)).cell (o := 1) rfl
    go_simp
    first | done | rfl
  simp only [Act.put, nm1, nm2, nm3, i64_w]
  refine wpK_ops rfl (fun w1 hu => ?_) ?_
  · have hcl := (spec_l04Circumcentre.calls K a0 a1 a2_0 a2_1 a3_0 a3_1 a4_0 a4_1 t21 t22 w1  A23.out)
    clear hu
    replace hcl := Aside0.mk hcl
    go_simp
    exact hcl.out
  simp only [Act.put, nm1, nm2, nm3, i64_w]
  refine wpK_ops rfl (fun w1 hu => ?_) ?_
  · have cl0 := ((hb2.up ((hu7.out.trans hu10.out).trans hu16.out)).up ((Up.refl _).drew.trans hu)).cell (o := 0) rfl
    have cl1 := ((hb2.up ((hu7.out.trans hu10.out).trans hu16.out)).up ((Up.refl _).drew.trans hu)).cell (o := 1) rfl
    go_simp
    first | done | rfl
  simp only [Act.put, nm1, nm2, nm3, i64_w]
  refine wpK_ops rfl (fun w1 hu => ?_) ?_
  · have hcl := (spec_l02Quadrance.calls K a0 a1 t21 t22 a2_0 a2_1 t24 w1  A25.out)
    clear hu
    replace hcl := Aside0.mk hcl
    go_simp
    exact hcl.out
  simp only [Act.put, nm1, nm2, nm3, i64_w]
  refine wpK_nil ?_
  intro w26 hu hap
  simp only [List.drop_succ_cons, List.drop_zero]
  replace hu := (Up.refl _).drew.trans hu
  clear hap
  have hu27 := Aside0.mk hu
  clear hu
  refine wpp fun K_ h_ => ?_; go_simp; refine h_ _ _ ?_; clear h_ K_
  refine wpp fun K_ h_ => ?_; go_simp; refine h_ _ _ ?_; clear h_ K_
  refine wpList_nil ?_
  (try simp only [Exit.then, Exit.inBlock, ↓reduceIte, Nat.reduceEqDiff])
  refine hK20 _ _ ?_
  refine wp_ret ?_
  (try simp only [Exit.then, Exit.inBlock, ↓reduceIte, Nat.reduceEqDiff])
  refine hQf _ _ _ ?_
  exact bodyPost_ret (v := .tuple #[.int .i64 t24, .int .i64 0]) (by first | rfl | (simp [results, Try.results40, go_sem]; done) | (simp [results, Try.results40, go_sem]; rfl)) rfl ⟨rfl, ((((hu4.out.trans hu7.out).trans hu10.out).trans hu16.out).trans hu27.out)⟩

set_option maxHeartbeats 40000000 in
set_option maxRecDepth 100000 in
theorem impl_AltitudeOf.calls (K : Nat) (a0 : Int) (a1 : Int) (a2_0 : Int) (a2_1 : Int) (a3_0 : Int) (a3_1 : Int) (a4_0 : Int) (a4_1 : Int) (r0 : Int) (r1 : Int) (r2 : Int) (r3 : Int) (w : World)  (h : impl_AltitudeOf.f K a0 a1 a2_0 a2_1 a3_0 a3_1 a4_0 a4_1 = some (r0, r1, r2, r3)) :
    Calls Try.prog 41 #[.int .i64 a0, .int .i64 a1, .agg #[.int .i64 a2_0, .int .i64 a2_1], .agg #[.int .i64 a3_0, .int .i64 a3_1], .agg #[.int .i64 a4_0, .int .i64 a4_1]] w fun e w' => e = .returned (.tuple #[.agg #[.int .i64 r0, .int .i64 r1, .int .i64 r2], .int .i64 r3]) ∧ Up w w' := by
 have H : (((impl_triangle.f K a0 a1 a2_0 a2_1 a3_0 a3_1 a4_0 a4_1).bind fun t16 => (if (t16 == 0) = true then ((impl_altitude.f K a0 a1 a2_0 a2_1 a3_0 a3_1 a4_0 a4_1).bind fun (t25, t26, t27) => some (t25, t26, t27, 0)) else some (0, 0, 0, t16))) : Option (Int × Int × Int × Int)) = some (r0, r1, r2, r3) := h
 clear h
 replace H := Option.bind_eq_some_iff.mp H
 obtain ⟨t16, A17, H⟩ := H
 replace A17 := Aside0.mk A17
 try dsimp only at H
 go_enter Try.func41, Try.ntmps41
 refine wp_hide (fun Qf hQf => ?_)
 refine wp_seq_k (fun K1 hK1 => ?_)
 refine wp_region_lit ?_
 refine step_new (cs := [.int .i64 a2_0, .int .i64 a2_1]) (T := 30) (f := fun b => .pointer (some ⟨b, 0, none⟩)) rfl (by go_simp <;> rfl) ?_
 intro b2 w3 hu lb hb2
 simp only [Act.put, nm1, nm2, nm3, i64_w]
 have lbb2 := Aside0.mk lb
 have ltb2 := Aside0.mk hb2.lt
 clear lb
 have hu4 := Aside0.mk hu
 clear hu
 refine step_new (cs := [.int .i64 a3_0, .int .i64 a3_1]) (T := 30) (f := fun b => .pointer (some ⟨b, 0, none⟩)) rfl (by go_simp <;> rfl) ?_
 intro b5 w6 hu lb hb5
 simp only [Act.put, nm1, nm2, nm3, i64_w]
 have lbb5 := Aside0.mk lb
 have ltb5 := Aside0.mk hb5.lt
 clear lb
 have hu7 := Aside0.mk hu
 clear hu
 refine step_new (cs := [.int .i64 a4_0, .int .i64 a4_1]) (T := 30) (f := fun b => .pointer (some ⟨b, 0, none⟩)) rfl (by go_simp <;> rfl) ?_
 intro b8 w9 hu lb hb8
 simp only [Act.put, nm1, nm2, nm3, i64_w]
 have lbb8 := Aside0.mk lb
 have ltb8 := Aside0.mk hb8.lt
 clear lb
 have hu10 := Aside0.mk hu
 clear hu
 refine step_new (cs := [.int .i64 0, .int .i64 0, .int .i64 0]) (T := 34) (f := fun b => .pointer (some ⟨b, 0, none⟩)) rfl (by go_simp <;> rfl) ?_
 intro b11 w12 hu lb hb11
 simp only [Act.put, nm1, nm2, nm3, i64_w]
 have lbb11 := Aside0.mk lb
 have ltb11 := Aside0.mk hb11.lt
 clear lb
 have hu13 := Aside0.mk hu
 clear hu
 refine wpp fun K_ h_ => ?_; go_simp; refine h_ _ _ ?_; clear h_ K_
 refine wpList_nil ?_
 (try simp only [Exit.then, Exit.inBlock, ↓reduceIte, Nat.reduceEqDiff])
 refine hK1 _ _ ?_
 refine wp_seq_k (fun K14 hK14 => ?_)
 refine wp_seq_k (fun K15 hK15 => ?_)
 refine wp_region_lit ?_
 refine wpp fun K_ h_ => ?_; go_simp; refine h_ _ _ ?_; clear h_ K_
 refine wpp fun K_ h_ => ?_; go_simp; refine h_ _ _ ?_; clear h_ K_
 have cl0 := (hb2.up ((hu7.out.trans hu10.out).trans hu13.out)).cell (o := 0) rfl
 have cl1 := (hb2.up ((hu7.out.trans hu10.out).trans hu13.out)).cell (o := 1) rfl
 refine wpp fun K_ h_ => ?_; go_simp; refine h_ _ _ ?_; clear h_ K_
 clear cl0 cl1
 have cl0 := (hb5.up (hu10.out.trans hu13.out)).cell (o := 0) rfl
 have cl1 := (hb5.up (hu10.out.trans hu13.out)).cell (o := 1) rfl
 refine wpp fun K_ h_ => ?_; go_simp; refine h_ _ _ ?_; clear h_ K_
 clear cl0 cl1
 have cl0 := (hb8.up hu13.out).cell (o := 0) rfl
 have cl1 := (hb8.up hu13.out).cell (o := 1) rfl
 refine wpp fun K_ h_ => ?_; go_simp; refine h_ _ _ ?_; clear h_ K_
 clear cl0 cl1
 refine step_call (wanted_none rfl) (by go_simp <;> rfl) (impl_triangle.calls K a0 a1 a2_0 a2_1 a3_0 a3_1 a4_0 a4_1 t16 w12  A17.out) ?_
 rintro e w18 ⟨rfl, hu⟩
 have hu19 := Aside0.mk hu
 clear hu
 refine ⟨_, rfl, ?_⟩
 simp only [Act.put, nm1, nm2, nm3, i64_w]
 refine wpp fun K_ h_ => ?_; go_simp; refine h_ _ _ ?_; clear h_ K_
 refine wpList_nil ?_
 (try simp only [Exit.then, Exit.inBlock, ↓reduceIte, Nat.reduceEqDiff])
 refine hK15 _ _ ?_
 refine wp_seq_k (fun K20 hK20 => ?_)
 refine wp_region_lit ?_
 refine wpp fun K_ h_ => ?_; go_simp; refine h_ _ _ ?_; clear h_ K_
 refine wpp fun K_ h_ => ?_; go_simp; refine h_ _ _ ?_; clear h_ K_
 refine wpList_nil ?_
 (try simp only [Exit.then, Exit.inBlock, ↓reduceIte, Nat.reduceEqDiff])
 refine hK20 _ _ ?_
 have hm22 := Aside0.mk (Nat.le_trans ((Nat.le_trans ((Nat.le_trans ((Nat.le_trans (hu4.out.size) hu7.out.size)) hu10.out.size)) hu13.out.size)) hu19.out.size)
 have h23 := (hb2.up (((hu7.out.trans hu10.out).trans hu13.out).trans hu19.out))
 by_cases c21 : (t16 == 0) = true
 rotate_left
 ·
  rw [if_neg c21] at H; replace c21 := Bool.eq_false_iff.mpr c21
  have c21n : (t16 != 0) = true := by rw [bne, c21]; rfl
  have c21p : ¬ t16 = 0 := fun e => by simp [e] at c21
  simp only [Option.some.injEq, Prod.mk.injEq] at H
  obtain ⟨rfl, rfl, rfl, rfl⟩ := H
  try simp only [c21, c21n, Bool.not_true, Bool.not_false]
  refine wp_cond_true rfl ?_
  refine wp_seq_k (fun K35 hK35 => ?_)
  refine wp_region_lit ?_
  refine wpp fun K_ h_ => ?_; go_simp; refine h_ _ _ ?_; clear h_ K_
  refine wpp fun K_ h_ => ?_; go_simp; refine h_ _ _ ?_; clear h_ K_
  have hB0 := (hb11.up hu19.out)
  have cl0 := hB0.cell (o := 0) rfl
  have fr0 := hB0.free 0
  have cl1 := hB0.cell (o := 1) rfl
  have fr1 := hB0.free 1
  have cl2 := hB0.cell (o := 2) rfl
  have fr2 := hB0.free 2
  refine step_store (b := b11) (cs' := [.int .i64 0, .int .i64 0, .int .i64 0]) (T := 34) (W' := (((w18.setCell ⟨b11, 0, none⟩ (.int .i64 0)).setCell ⟨b11, 1, none⟩ (.int .i64 0)).setCell ⟨b11, 2, none⟩ (.int .i64 0))) rfl rfl (by go_simp <;> rfl) ((((Sto.refl _ _).setCell 0 _).setCell 1 _).setCell 2 _) ((((hB0).setCell 0 _).setCell 1 _).setCell 2 _) ?_
  clear hB0 cl0 fr0 cl1 fr1 cl2 fr2
  intro w36 hs hb38
  have hs37 := Aside0.mk hs
  clear hs
  have h39 := h23.sto hs37.out (Nat.ne_of_lt (Nat.lt_of_lt_of_le (Nat.lt_of_lt_of_le ltb2.out ((Nat.le_trans (hu7.out.size) hu10.out.size))) lbb11.out))
  refine wpp fun K_ h_ => ?_; go_simp; refine h_ _ _ ?_; clear h_ K_
  refine wpList_nil ?_
  (try simp only [Exit.then, Exit.inBlock, ↓reduceIte, Nat.reduceEqDiff])
  refine hK35 _ _ ?_
  refine wp_ret ?_
  (try simp only [Exit.then, Exit.inBlock, ↓reduceIte, Nat.reduceEqDiff])
  refine hQf _ _ _ ?_
  have cr0 := hb38.cell (o := 0) rfl
  have cr1 := hb38.cell (o := 1) rfl
  have cr2 := hb38.cell (o := 2) rfl
  exact bodyPost_ret (v := .tuple #[.agg #[.int .i64 0, .int .i64 0, .int .i64 0], .int .i64 t16]) (by first | rfl | (simp [results, Try.results41, go_sem, cr0, cr1, cr2]; done) | (simp [results, Try.results41, go_sem, cr0, cr1, cr2]; rfl)) rfl ⟨rfl, (((((hu4.out.trans hu7.out).trans hu10.out).trans hu13.out).trans hu19.out).sto (Nat.le_trans ((Nat.le_trans ((Nat.le_trans (hu4.out.size) hu7.out.size)) hu10.out.size)) lbb11.out) hs37.out)⟩
 rw [if_pos c21] at H
 have c21n : (t16 != 0) = false := by rw [bne, c21]; rfl
 replace H := Option.bind_eq_some_iff.mp H
 obtain ⟨⟨t25, t26, t27⟩, A28, H⟩ := H
 replace A28 := Aside0.mk A28
 try dsimp only at H
 simp only [Option.some.injEq, Prod.mk.injEq] at H
 obtain ⟨rfl, rfl, rfl, rfl⟩ := H
 try simp only [c21, c21n, Bool.not_true, Bool.not_false]
 refine wp_cond_false rfl ?_
 refine wp_skip ?_
 (try simp only [Exit.then, Exit.inBlock, ↓reduceIte, Nat.reduceEqDiff])
 refine hK14 _ _ ?_
 refine wp_seq_k (fun K24 hK24 => ?_)
 refine wp_region_lit ?_
 refine wpp fun K_ h_ => ?_; go_simp; refine h_ _ _ ?_; clear h_ K_
 refine wpp fun K_ h_ => ?_; go_simp; refine h_ _ _ ?_; clear h_ K_
 have cl0 := h23.cell (o := 0) rfl
 have cl1 := h23.cell (o := 1) rfl
 refine wpp fun K_ h_ => ?_; go_simp; refine h_ _ _ ?_; clear h_ K_
 clear cl0 cl1
 have cl0 := (hb5.up ((hu10.out.trans hu13.out).trans hu19.out)).cell (o := 0) rfl
 have cl1 := (hb5.up ((hu10.out.trans hu13.out).trans hu19.out)).cell (o := 1) rfl
 refine wpp fun K_ h_ => ?_; go_simp; refine h_ _ _ ?_; clear h_ K_
 clear cl0 cl1
 have cl0 := (hb8.up (hu13.out.trans hu19.out)).cell (o := 0) rfl
 have cl1 := (hb8.up (hu13.out.trans hu19.out)).cell (o := 1) rfl
 refine wpp fun K_ h_ => ?_; go_simp; refine h_ _ _ ?_; clear h_ K_
 clear cl0 cl1
 refine step_call (wanted_none rfl) (by go_simp <;> rfl) (impl_altitude.calls K a0 a1 a2_0 a2_1 a3_0 a3_1 a4_0 a4_1 t25 t26 t27 w18  A28.out) ?_
 rintro e w29 ⟨rfl, hu⟩
 have hu30 := Aside0.mk hu
 clear hu
 refine ⟨_, rfl, ?_⟩
 simp only [Act.put, nm1, nm2, nm3, i64_w]
 have hB0 := (hb11.up (hu19.out.trans hu30.out))
 have cl0 := hB0.cell (o := 0) rfl
 have fr0 := hB0.free 0
 have cl1 := hB0.cell (o := 1) rfl
 have fr1 := hB0.free 1
 have cl2 := hB0.cell (o := 2) rfl
 have fr2 := hB0.free 2
 refine step_store (b := b11) (cs' := [.int .i64 t25, .int .i64 t26, .int .i64 t27]) (T := 34) (W' := (((w29.setCell ⟨b11, 0, none⟩ (.int .i64 t25)).setCell ⟨b11, 1, none⟩ (.int .i64 t26)).setCell ⟨b11, 2, none⟩ (.int .i64 t27))) rfl rfl (by go_simp <;> rfl) ((((Sto.refl _ _).setCell 0 _).setCell 1 _).setCell 2 _) ((((hB0).setCell 0 _).setCell 1 _).setCell 2 _) ?_
 clear hB0 cl0 fr0 cl1 fr1 cl2 fr2
 intro w31 hs hb33
 have hs32 := Aside0.mk hs
 clear hs
 have h34 := (h23.up hu30.out).sto hs32.out (Nat.ne_of_lt (Nat.lt_of_lt_of_le (Nat.lt_of_lt_of_le ltb2.out ((Nat.le_trans (hu7.out.size) hu10.out.size))) lbb11.out))
 refine wpp fun K_ h_ => ?_; go_simp; refine h_ _ _ ?_; clear h_ K_
 refine wpList_nil ?_
 (try simp only [Exit.then, Exit.inBlock, ↓reduceIte, Nat.reduceEqDiff])
 refine hK24 _ _ ?_
 refine wp_ret ?_
 (try simp only [Exit.then, Exit.inBlock, ↓reduceIte, Nat.reduceEqDiff])
 refine hQf _ _ _ ?_
 have cr0 := hb33.cell (o := 0) rfl
 have cr1 := hb33.cell (o := 1) rfl
 have cr2 := hb33.cell (o := 2) rfl
 exact bodyPost_ret (v := .tuple #[.agg #[.int .i64 t25, .int .i64 t26, .int .i64 t27], .int .i64 0]) (by first | rfl | (simp [results, Try.results41, go_sem, cr0, cr1, cr2]; done) | (simp [results, Try.results41, go_sem, cr0, cr1, cr2]; rfl)) rfl ⟨rfl, ((((((hu4.out.trans hu7.out).trans hu10.out).trans hu13.out).trans hu19.out).trans hu30.out).sto (Nat.le_trans ((Nat.le_trans ((Nat.le_trans (hu4.out.size) hu7.out.size)) hu10.out.size)) lbb11.out) hs32.out)⟩

set_option maxHeartbeats 40000000 in
set_option maxRecDepth 100000 in
theorem spec_AltitudeOf.calls (K : Nat) (a0 : Int) (a1 : Int) (a2_0 : Int) (a2_1 : Int) (a3_0 : Int) (a3_1 : Int) (a4_0 : Int) (a4_1 : Int) (r0 : Int) (r1 : Int) (r2 : Int) (r3 : Int) (w : World)  (h : spec_AltitudeOf.f K a0 a1 a2_0 a2_1 a3_0 a3_1 a4_0 a4_1 = some (r0, r1, r2, r3)) :
    Calls Try.prog 42 #[.int .i64 a0, .int .i64 a1, .agg #[.int .i64 a2_0, .int .i64 a2_1], .agg #[.int .i64 a3_0, .int .i64 a3_1], .agg #[.int .i64 a4_0, .int .i64 a4_1]] w fun e w' => e = .returned (.tuple #[.agg #[.int .i64 r0, .int .i64 r1, .int .i64 r2], .int .i64 r3]) ∧ Up w w' := by
 have H : (((spec_l04Code.f K a0 a1 a2_0 a2_1 a3_0 a3_1 a4_0 a4_1).bind fun t16 => (if (t16 == 0) = true then ((spec_l04Altitude.f K a0 a1 a2_0 a2_1 a3_0 a3_1 a4_0 a4_1).bind fun (t25, t26, t27) => some (t25, t26, t27, 0)) else some (0, 0, 0, t16))) : Option (Int × Int × Int × Int)) = some (r0, r1, r2, r3) := h
 clear h
 replace H := Option.bind_eq_some_iff.mp H
 obtain ⟨t16, A17, H⟩ := H
 replace A17 := Aside0.mk A17
 try dsimp only at H
 go_enter Try.func42, Try.ntmps42
 refine wp_hide (fun Qf hQf => ?_)
 refine wp_seq_k (fun K1 hK1 => ?_)
 refine wp_region_lit ?_
 refine step_new (cs := [.int .i64 a2_0, .int .i64 a2_1]) (T := 30) (f := fun b => .pointer (some ⟨b, 0, none⟩)) rfl (by go_simp <;> rfl) ?_
 intro b2 w3 hu lb hb2
 simp only [Act.put, nm1, nm2, nm3, i64_w]
 have lbb2 := Aside0.mk lb
 have ltb2 := Aside0.mk hb2.lt
 clear lb
 have hu4 := Aside0.mk hu
 clear hu
 refine step_new (cs := [.int .i64 a3_0, .int .i64 a3_1]) (T := 30) (f := fun b => .pointer (some ⟨b, 0, none⟩)) rfl (by go_simp <;> rfl) ?_
 intro b5 w6 hu lb hb5
 simp only [Act.put, nm1, nm2, nm3, i64_w]
 have lbb5 := Aside0.mk lb
 have ltb5 := Aside0.mk hb5.lt
 clear lb
 have hu7 := Aside0.mk hu
 clear hu
 refine step_new (cs := [.int .i64 a4_0, .int .i64 a4_1]) (T := 30) (f := fun b => .pointer (some ⟨b, 0, none⟩)) rfl (by go_simp <;> rfl) ?_
 intro b8 w9 hu lb hb8
 simp only [Act.put, nm1, nm2, nm3, i64_w]
 have lbb8 := Aside0.mk lb
 have ltb8 := Aside0.mk hb8.lt
 clear lb
 have hu10 := Aside0.mk hu
 clear hu
 refine step_new (cs := [.int .i64 0, .int .i64 0, .int .i64 0]) (T := 34) (f := fun b => .pointer (some ⟨b, 0, none⟩)) rfl (by go_simp <;> rfl) ?_
 intro b11 w12 hu lb hb11
 simp only [Act.put, nm1, nm2, nm3, i64_w]
 have lbb11 := Aside0.mk lb
 have ltb11 := Aside0.mk hb11.lt
 clear lb
 have hu13 := Aside0.mk hu
 clear hu
 refine wpp fun K_ h_ => ?_; go_simp; refine h_ _ _ ?_; clear h_ K_
 refine wpList_nil ?_
 (try simp only [Exit.then, Exit.inBlock, ↓reduceIte, Nat.reduceEqDiff])
 refine hK1 _ _ ?_
 refine wp_seq_k (fun K14 hK14 => ?_)
 refine wp_seq_k (fun K15 hK15 => ?_)
 refine wp_region_lit ?_
 refine wpp fun K_ h_ => ?_; go_simp; refine h_ _ _ ?_; clear h_ K_
 refine wpp fun K_ h_ => ?_; go_simp; refine h_ _ _ ?_; clear h_ K_
 have cl0 := (hb2.up ((hu7.out.trans hu10.out).trans hu13.out)).cell (o := 0) rfl
 have cl1 := (hb2.up ((hu7.out.trans hu10.out).trans hu13.out)).cell (o := 1) rfl
 refine wpp fun K_ h_ => ?_; go_simp; refine h_ _ _ ?_; clear h_ K_
 clear cl0 cl1
 have cl0 := (hb5.up (hu10.out.trans hu13.out)).cell (o := 0) rfl
 have cl1 := (hb5.up (hu10.out.trans hu13.out)).cell (o := 1) rfl
 refine wpp fun K_ h_ => ?_; go_simp; refine h_ _ _ ?_; clear h_ K_
 clear cl0 cl1
 have cl0 := (hb8.up hu13.out).cell (o := 0) rfl
 have cl1 := (hb8.up hu13.out).cell (o := 1) rfl
 refine wpp fun K_ h_ => ?_; go_simp; refine h_ _ _ ?_; clear h_ K_
 clear cl0 cl1
 refine step_call (wanted_none rfl) (by go_simp <;> rfl) (spec_l04Code.calls K a0 a1 a2_0 a2_1 a3_0 a3_1 a4_0 a4_1 t16 w12  A17.out) ?_
 rintro e w18 ⟨rfl, hu⟩
 have hu19 := Aside0.mk hu
 clear hu
 refine ⟨_, rfl, ?_⟩
 simp only [Act.put, nm1, nm2, nm3, i64_w]
 refine wpp fun K_ h_ => ?_; go_simp; refine h_ _ _ ?_; clear h_ K_
 refine wpList_nil ?_
 (try simp only [Exit.then, Exit.inBlock, ↓reduceIte, Nat.reduceEqDiff])
 refine hK15 _ _ ?_
 refine wp_seq_k (fun K20 hK20 => ?_)
 refine wp_region_lit ?_
 refine wpp fun K_ h_ => ?_; go_simp; refine h_ _ _ ?_; clear h_ K_
 refine wpp fun K_ h_ => ?_; go_simp; refine h_ _ _ ?_; clear h_ K_
 refine wpList_nil ?_
 (try simp only [Exit.then, Exit.inBlock, ↓reduceIte, Nat.reduceEqDiff])
 refine hK20 _ _ ?_
 have hm22 := Aside0.mk (Nat.le_trans ((Nat.le_trans ((Nat.le_trans ((Nat.le_trans (hu4.out.size) hu7.out.size)) hu10.out.size)) hu13.out.size)) hu19.out.size)
 have h23 := (hb2.up (((hu7.out.trans hu10.out).trans hu13.out).trans hu19.out))
 by_cases c21 : (t16 == 0) = true
 rotate_left
 ·
  rw [if_neg c21] at H; replace c21 := Bool.eq_false_iff.mpr c21
  have c21n : (t16 != 0) = true := by rw [bne, c21]; rfl
  have c21p : ¬ t16 = 0 := fun e => by simp [e] at c21
  simp only [Option.some.injEq, Prod.mk.injEq] at H
  obtain ⟨rfl, rfl, rfl, rfl⟩ := H
  try simp only [c21, c21n, Bool.not_true, Bool.not_false]
  refine wp_cond_true rfl ?_
  refine wp_seq_k (fun K35 hK35 => ?_)
  refine wp_region_lit ?_
  refine wpp fun K_ h_ => ?_; go_simp; refine h_ _ _ ?_; clear h_ K_
  refine wpp fun K_ h_ => ?_; go_simp; refine h_ _ _ ?_; clear h_ K_
  have hB0 := (hb11.up hu19.out)
  have cl0 := hB0.cell (o := 0) rfl
  have fr0 := hB0.free 0
  have cl1 := hB0.cell (o := 1) rfl
  have fr1 := hB0.free 1
  have cl2 := hB0.cell (o := 2) rfl
  have fr2 := hB0.free 2
  refine step_store (b := b11) (cs' := [.int .i64 0, .int .i64 0, .int .i64 0]) (T := 34) (W' := (((w18.setCell ⟨b11, 0, none⟩ (.int .i64 0)).setCell ⟨b11, 1, none⟩ (.int .i64 0)).setCell ⟨b11, 2, none⟩ (.int .i64 0))) rfl rfl (by go_simp <;> rfl) ((((Sto.refl _ _).setCell 0 _).setCell 1 _).setCell 2 _) ((((hB0).setCell 0 _).setCell 1 _).setCell 2 _) ?_
  clear hB0 cl0 fr0 cl1 fr1 cl2 fr2
  intro w36 hs hb38
  have hs37 := Aside0.mk hs
  clear hs
  have h39 := h23.sto hs37.out (Nat.ne_of_lt (Nat.lt_of_lt_of_le (Nat.lt_of_lt_of_le ltb2.out ((Nat.le_trans (hu7.out.size) hu10.out.size))) lbb11.out))
  refine wpp fun K_ h_ => ?_; go_simp; refine h_ _ _ ?_; clear h_ K_
  refine wpList_nil ?_
  (try simp only [Exit.then, Exit.inBlock, ↓reduceIte, Nat.reduceEqDiff])
  refine hK35 _ _ ?_
  refine wp_ret ?_
  (try simp only [Exit.then, Exit.inBlock, ↓reduceIte, Nat.reduceEqDiff])
  refine hQf _ _ _ ?_
  have cr0 := hb38.cell (o := 0) rfl
  have cr1 := hb38.cell (o := 1) rfl
  have cr2 := hb38.cell (o := 2) rfl
  exact bodyPost_ret (v := .tuple #[.agg #[.int .i64 0, .int .i64 0, .int .i64 0], .int .i64 t16]) (by first | rfl | (simp [results, Try.results42, go_sem, cr0, cr1, cr2]; done) | (simp [results, Try.results42, go_sem, cr0, cr1, cr2]; rfl)) rfl ⟨rfl, (((((hu4.out.trans hu7.out).trans hu10.out).trans hu13.out).trans hu19.out).sto (Nat.le_trans ((Nat.le_trans ((Nat.le_trans (hu4.out.size) hu7.out.size)) hu10.out.size)) lbb11.out) hs37.out)⟩
 rw [if_pos c21] at H
 have c21n : (t16 != 0) = false := by rw [bne, c21]; rfl
 replace H := Option.bind_eq_some_iff.mp H
 obtain ⟨⟨t25, t26, t27⟩, A28, H⟩ := H
 replace A28 := Aside0.mk A28
 try dsimp only at H
 simp only [Option.some.injEq, Prod.mk.injEq] at H
 obtain ⟨rfl, rfl, rfl, rfl⟩ := H
 try simp only [c21, c21n, Bool.not_true, Bool.not_false]
 refine wp_cond_false rfl ?_
 refine wp_skip ?_
 (try simp only [Exit.then, Exit.inBlock, ↓reduceIte, Nat.reduceEqDiff])
 refine hK14 _ _ ?_
 refine wp_seq_k (fun K24 hK24 => ?_)
 refine wp_region_lit ?_
 refine wpp fun K_ h_ => ?_; go_simp; refine h_ _ _ ?_; clear h_ K_
 refine wpp fun K_ h_ => ?_; go_simp; refine h_ _ _ ?_; clear h_ K_
 have cl0 := h23.cell (o := 0) rfl
 have cl1 := h23.cell (o := 1) rfl
 refine wpp fun K_ h_ => ?_; go_simp; refine h_ _ _ ?_; clear h_ K_
 clear cl0 cl1
 have cl0 := (hb5.up ((hu10.out.trans hu13.out).trans hu19.out)).cell (o := 0) rfl
 have cl1 := (hb5.up ((hu10.out.trans hu13.out).trans hu19.out)).cell (o := 1) rfl
 refine wpp fun K_ h_ => ?_; go_simp; refine h_ _ _ ?_; clear h_ K_
 clear cl0 cl1
 have cl0 := (hb8.up (hu13.out.trans hu19.out)).cell (o := 0) rfl
 have cl1 := (hb8.up (hu13.out.trans hu19.out)).cell (o := 1) rfl
 refine wpp fun K_ h_ => ?_; go_simp; refine h_ _ _ ?_; clear h_ K_
 clear cl0 cl1
 refine step_call (wanted_none rfl) (by go_simp <;> rfl) (spec_l04Altitude.calls K a0 a1 a2_0 a2_1 a3_0 a3_1 a4_0 a4_1 t25 t26 t27 w18  A28.out) ?_
 rintro e w29 ⟨rfl, hu⟩
 have hu30 := Aside0.mk hu
 clear hu
 refine ⟨_, rfl, ?_⟩
 simp only [Act.put, nm1, nm2, nm3, i64_w]
 have hB0 := (hb11.up (hu19.out.trans hu30.out))
 have cl0 := hB0.cell (o := 0) rfl
 have fr0 := hB0.free 0
 have cl1 := hB0.cell (o := 1) rfl
 have fr1 := hB0.free 1
 have cl2 := hB0.cell (o := 2) rfl
 have fr2 := hB0.free 2
 refine step_store (b := b11) (cs' := [.int .i64 t25, .int .i64 t26, .int .i64 t27]) (T := 34) (W' := (((w29.setCell ⟨b11, 0, none⟩ (.int .i64 t25)).setCell ⟨b11, 1, none⟩ (.int .i64 t26)).setCell ⟨b11, 2, none⟩ (.int .i64 t27))) rfl rfl (by go_simp <;> rfl) ((((Sto.refl _ _).setCell 0 _).setCell 1 _).setCell 2 _) ((((hB0).setCell 0 _).setCell 1 _).setCell 2 _) ?_
 clear hB0 cl0 fr0 cl1 fr1 cl2 fr2
 intro w31 hs hb33
 have hs32 := Aside0.mk hs
 clear hs
 have h34 := (h23.up hu30.out).sto hs32.out (Nat.ne_of_lt (Nat.lt_of_lt_of_le (Nat.lt_of_lt_of_le ltb2.out ((Nat.le_trans (hu7.out.size) hu10.out.size))) lbb11.out))
 refine wpp fun K_ h_ => ?_; go_simp; refine h_ _ _ ?_; clear h_ K_
 refine wpList_nil ?_
 (try simp only [Exit.then, Exit.inBlock, ↓reduceIte, Nat.reduceEqDiff])
 refine hK24 _ _ ?_
 refine wp_ret ?_
 (try simp only [Exit.then, Exit.inBlock, ↓reduceIte, Nat.reduceEqDiff])
 refine hQf _ _ _ ?_
 have cr0 := hb33.cell (o := 0) rfl
 have cr1 := hb33.cell (o := 1) rfl
 have cr2 := hb33.cell (o := 2) rfl
 exact bodyPost_ret (v := .tuple #[.agg #[.int .i64 t25, .int .i64 t26, .int .i64 t27], .int .i64 0]) (by first | rfl | (simp [results, Try.results42, go_sem, cr0, cr1, cr2]; done) | (simp [results, Try.results42, go_sem, cr0, cr1, cr2]; rfl)) rfl ⟨rfl, ((((((hu4.out.trans hu7.out).trans hu10.out).trans hu13.out).trans hu19.out).trans hu30.out).sto (Nat.le_trans ((Nat.le_trans ((Nat.le_trans (hu4.out.size) hu7.out.size)) hu10.out.size)) lbb11.out) hs32.out)⟩

set_option maxHeartbeats 40000000 in
set_option maxRecDepth 100000 in
theorem spec_DrawMedianOf.calls (K : Nat) (a0_A : Option Addr) (a0_c : Nat) (a0 : List (Int)) (r0 : Int) (r1 : Int) (r2 : Int) (r3 : Int) (r4 : Int) (r5 : Int) (r6 : Int) (w : World) (ha0 : Rd eU8 w a0_A a0) (h : spec_DrawMedianOf.f K a0 = some (r0, r1, r2, r3, r4, r5, r6)) :
    Calls Try.prog 126 #[.slice a0_A a0.length a0_c] w fun e w' => e = .returned (.tuple #[.int .i64 r0, .agg #[.int .i64 r1, .int .i64 r2], .agg #[.int .i64 r3, .int .i64 r4], .agg #[.int .i64 r5, .int .i64 r6]]) ∧ Up w w' := by
 have H : (((spec_l04Draw.f K a0).bind fun (t12, t13, t14, t15, t16, t17, t18, t19) => some (t12, t14, t15, t16, t17, t18, t19)) : Option (Int × Int × Int × Int × Int × Int × Int)) = some (r0, r1, r2, r3, r4, r5, r6) := h
 clear h
 replace H := Option.bind_eq_some_iff.mp H
 obtain ⟨⟨t12, t13, t14, t15, t16, t17, t18, t19⟩, A20, H⟩ := H
 replace A20 := Aside0.mk A20
 try dsimp only at H
 simp only [Option.some.injEq, Prod.mk.injEq] at H
 obtain ⟨rfl, rfl, rfl, rfl, rfl, rfl, rfl⟩ := H
 go_enter Try.func126, Try.ntmps126
 refine wp_hide (fun Qf hQf => ?_)
 refine wp_seq_k (fun K1 hK1 => ?_)
 refine wp_region_lit ?_
 refine wpp fun K_ h_ => ?_; go_simp; refine h_ _ _ ?_; clear h_ K_
 refine step_new (cs := [.int .i64 0, .int .i64 0]) (T := 30) (f := fun b => .pointer (some ⟨b, 0, none⟩)) rfl (by go_simp <;> rfl) ?_
 intro b2 w3 hu lb hb2
 simp only [Act.put, nm1, nm2, nm3, i64_w]
 have lbb2 := Aside0.mk lb
 have ltb2 := Aside0.mk hb2.lt
 clear lb
 have hu4 := Aside0.mk hu
 clear hu
 refine step_new (cs := [.int .i64 0, .int .i64 0]) (T := 30) (f := fun b => .pointer (some ⟨b, 0, none⟩)) rfl (by go_simp <;> rfl) ?_
 intro b5 w6 hu lb hb5
 simp only [Act.put, nm1, nm2, nm3, i64_w]
 have lbb5 := Aside0.mk lb
 have ltb5 := Aside0.mk hb5.lt
 clear lb
 have hu7 := Aside0.mk hu
 clear hu
 refine step_new (cs := [.int .i64 0, .int .i64 0]) (T := 30) (f := fun b => .pointer (some ⟨b, 0, none⟩)) rfl (by go_simp <;> rfl) ?_
 intro b8 w9 hu lb hb8
 simp only [Act.put, nm1, nm2, nm3, i64_w]
 have lbb8 := Aside0.mk lb
 have ltb8 := Aside0.mk hb8.lt
 clear lb
 have hu10 := Aside0.mk hu
 clear hu
 refine wpList_nil ?_
 (try simp only [Exit.then, Exit.inBlock, ↓reduceIte, Nat.reduceEqDiff])
 refine hK1 _ _ ?_
 refine wp_seq_k (fun K11 hK11 => ?_)
 refine wp_region_lit ?_
 refine wpp fun K_ h_ => ?_; go_simp; refine h_ _ _ ?_; clear h_ K_
 refine step_call (wanted_none rfl) (by go_simp <;> rfl) (spec_l04Draw.calls K a0_A a0_c a0 t12 t13 t14 t15 t16 t17 t18 t19 w9 (ha0.up ((hu4.out.trans hu7.out).trans hu10.out)) A20.out) ?_
 rintro e w21 ⟨rfl, hu⟩
 have hu22 := Aside0.mk hu
 clear hu
 refine ⟨_, rfl, ?_⟩
 simp only [Act.put, nm1, nm2, nm3, i64_w]
 refine wpp fun K_ h_ => ?_; go_simp; refine h_ _ _ ?_; clear h_ K_
 refine wpp fun K_ h_ => ?_; go_simp; refine h_ _ _ ?_; clear h_ K_
 refine wpp fun K_ h_ => ?_; go_simp; refine h_ _ _ ?_; clear h_ K_
 refine wpp fun K_ h_ => ?_; go_simp; refine h_ _ _ ?_; clear h_ K_
 refine wpp fun K_ h_ => ?_; go_simp; refine h_ _ _ ?_; clear h_ K_
 refine wpp fun K_ h_ => ?_; go_simp; refine h_ _ _ ?_; clear h_ K_
 refine step_new (cs := [.int .i64 0, .int .i64 0]) (T := 30) (f := fun b => .pointer (some ⟨b, 0, none⟩)) rfl (by go_simp <;> rfl) ?_
 intro b23 w24 hu lb hb23
 simp only [Act.put, nm1, nm2, nm3, i64_w]
 have lbb23 := Aside0.mk lb
 have ltb23 := Aside0.mk hb23.lt
 clear lb
 have hu25 := Aside0.mk hu
 clear hu
 refine step_new (cs := [.int .i64 0, .int .i64 0]) (T := 30) (f := fun b => .pointer (some ⟨b, 0, none⟩)) rfl (by go_simp <;> rfl) ?_
 intro b26 w27 hu lb hb26
 simp only [Act.put, nm1, nm2, nm3, i64_w]
 have lbb26 := Aside0.mk lb
 have ltb26 := Aside0.mk hb26.lt
 clear lb
 have hu28 := Aside0.mk hu
 clear hu
 refine step_new (cs := [.int .i64 0, .int .i64 0]) (T := 30) (f := fun b => .pointer (some ⟨b, 0, none⟩)) rfl (by go_simp <;> rfl) ?_
 intro b29 w30 hu lb hb29
 simp only [Act.put, nm1, nm2, nm3, i64_w]
 have lbb29 := Aside0.mk lb
 have ltb29 := Aside0.mk hb29.lt
 clear lb
 have hu31 := Aside0.mk hu
 clear hu
 refine wpp fun K_ h_ => ?_; go_simp; refine h_ _ _ ?_; clear h_ K_
 refine wpp fun K_ h_ => ?_; go_simp; refine h_ _ _ ?_; clear h_ K_
 have hB0 := (hb23.up (hu28.out.trans hu31.out))
 have cl0 := hB0.cell (o := 0) rfl
 have fr0 := hB0.free 0
 have cl1 := hB0.cell (o := 1) rfl
 have fr1 := hB0.free 1
 refine step_store (b := b23) (cs' := [.int .i64 t14, .int .i64 t15]) (T := 30) (W' := ((w30.setCell ⟨b23, 0, none⟩ (.int .i64 t14)).setCell ⟨b23, 1, none⟩ (.int .i64 t15))) rfl rfl (by go_simp <;> rfl) (((Sto.refl _ _).setCell 0 _).setCell 1 _) (((hB0).setCell 0 _).setCell 1 _) ?_
 clear hB0 cl0 fr0 cl1 fr1
 intro w32 hs hb34
 have hs33 := Aside0.mk hs
 clear hs
 have h35 := (hb26.up hu31.out).sto hs33.out (Ne.symm (Nat.ne_of_lt (Nat.lt_of_lt_of_le ltb23.out lbb26.out)))
 have h36 := hb29.sto hs33.out (Ne.symm (Nat.ne_of_lt (Nat.lt_of_lt_of_le (Nat.lt_of_lt_of_le ltb23.out (hu28.out.size)) lbb29.out)))
 have hB0 := h35
 have cl0 := hB0.cell (o := 0) rfl
 have fr0 := hB0.free 0
 have cl1 := hB0.cell (o := 1) rfl
 have fr1 := hB0.free 1
 refine step_store (b := b26) (cs' := [.int .i64 t16, .int .i64 t17]) (T := 30) (W' := ((w32.setCell ⟨b26, 0, none⟩ (.int .i64 t16)).setCell ⟨b26, 1, none⟩ (.int .i64 t17))) rfl rfl (by go_simp <;> rfl) (((Sto.refl _ _).setCell 0 _).setCell 1 _) (((hB0).setCell 0 _).setCell 1 _) ?_
 clear hB0 cl0 fr0 cl1 fr1
 intro w37 hs hb39
 have hs38 := Aside0.mk hs
 clear hs
 have h40 := hb34.sto hs38.out (Nat.ne_of_lt (Nat.lt_of_lt_of_le ltb23.out lbb26.out))
 have h41 := h36.sto hs38.out (Ne.symm (Nat.ne_of_lt (Nat.lt_of_lt_of_le ltb26.out lbb29.out)))
 have hB0 := h41
 have cl0 := hB0.cell (o := 0) rfl
 have fr0 := hB0.free 0
 have cl1 := hB0.cell (o := 1) rfl
 have fr1 := hB0.free 1
 refine step_store (b := b29) (cs' := [.int .i64 t18, .int .i64 t19]) (T := 30) (W' := ((w37.setCell ⟨b29, 0, none⟩ (.int .i64 t18)).setCell ⟨b29, 1, none⟩ (.int .i64 t19))) rfl rfl (by go_simp <;> rfl) (((Sto.refl _ _).setCell 0 _).setCell 1 _) (((hB0).setCell 0 _).setCell 1 _) ?_
 clear hB0 cl0 fr0 cl1 fr1
 intro w42 hs hb44
 have hs43 := Aside0.mk hs
 clear hs
 have h45 := h40.sto hs43.out (Nat.ne_of_lt (Nat.lt_of_lt_of_le (Nat.lt_of_lt_of_le ltb23.out (hu28.out.size)) lbb29.out))
 have h46 := hb39.sto hs43.out (Nat.ne_of_lt (Nat.lt_of_lt_of_le ltb26.out lbb29.out))
 refine wpList_nil ?_
 (try simp only [Exit.then, Exit.inBlock, ↓reduceIte, Nat.reduceEqDiff])
 refine hK11 _ _ ?_
 refine wp_seq_k (fun K47 hK47 => ?_)
 have hTT_ : ∀ w_, Up (World.drew w42) w_ → (fun w_ => Blk w_ b23 [.int .i64 t14, .int .i64 t15] 30 ∧ Blk w_ b26 [.int .i64 t16, .int .i64 t17] 30 ∧ Blk w_ b29 [.int .i64 t18, .int .i64 t19] 30 ∧ True) w_ := fun w_ hu_ => ⟨h45.up ((Up.refl _).drew.trans hu_), h46.up ((Up.refl _).drew.trans hu_), hb44.up ((Up.refl _).drew.trans hu_), True.intro⟩
 refine' wp_region_pure (fun w_ => Blk w_ b23 [.int .i64 t14, .int .i64 t15] 30 ∧ Blk w_ b26 [.int .i64 t16, .int .i64 t17] 30 ∧ Blk w_ b29 [.int .i64 t18, .int .i64 t19] 30 ∧ True) 4 [1, 2, 3] [Slot.det _, Slot.pur _, Slot.pur _, Slot.pur _] (by kernel_rfl) [false, true, true, true] (by kernel_rfl) rfl (by kernel_rfl) (by decide) hTT_ ?main
 case main =>
  simp only [List.take_succ_cons, List.take_zero]
  refine wpK_ops rfl (fun w1 hu => ?_) ?_
  · clear hu
    go_simp
    first | done | rfl
  simp only [Act.put, nm1, nm2, nm3, i64_w]
  refine wpK_pur rfl hTT_ (fun w1 hT => ?_) ?_
  · have hB_ := hT.1
    have cl0 := hB_.cell (o := 0) rfl
    have cl1 := hB_.cell (o := 1) rfl
    clear hT
    go_simp
    first | done | rfl
  simp only [Act.put, nm1, nm2, nm3, i64_w]
  refine wpK_pur rfl hTT_ (fun w1 hT => ?_) ?_
  · have hB_ := hT.2.1
    have cl0 := hB_.cell (o := 0) rfl
    have cl1 := hB_.cell (o := 1) rfl
    clear hT
    go_simp
    first | done | rfl
  simp only [Act.put, nm1, nm2, nm3, i64_w]
  refine wpK_pur rfl hTT_ (fun w1 hT => ?_) ?_
  · have hB_ := hT.2.2.1
    have cl0 := hB_.cell (o := 0) rfl
    have cl1 := hB_.cell (o := 1) rfl
    clear hT
    go_simp
    first | done | rfl
  simp only [Act.put, nm1, nm2, nm3, i64_w]
  refine wpK_nil ?_
  intro w48 hu hap
  simp only [List.drop_succ_cons, List.drop_zero]
  replace hu := (Up.refl _).drew.trans hu
  clear hap
  have hu49 := Aside0.mk hu
  clear hu
  refine late_consT ⟨(h45.up hu49.out), (h46.up hu49.out), (hb44.up hu49.out), True.intro⟩ ?_
  refine wpp fun K_ h_ => ?_; go_simp; refine h_ _ _ ?_; clear h_ K_
  refine wpList_nil ?_
  refine wrapQ_k ?_
  refine late_consT ⟨(h45.up hu49.out), (h46.up hu49.out), (hb44.up hu49.out), True.intro⟩ ?_
  have hB0 := (hb2.up (((((((((hu7.out.trans hu10.out).trans hu22.out).trans hu25.out).trans hu28.out).trans hu31.out).sto (Nat.le_trans ((Nat.le_trans ((Nat.le_trans (hu7.out.size) hu10.out.size)) hu22.out.size)) lbb23.out) hs33.out).sto (Nat.le_trans ((Nat.le_trans ((Nat.le_trans ((Nat.le_trans (hu7.out.size) hu10.out.size)) hu22.out.size)) hu25.out.size)) lbb26.out) hs38.out).sto (Nat.le_trans ((Nat.le_trans ((Nat.le_trans ((Nat.le_trans ((Nat.le_trans (hu7.out.size) hu10.out.size)) hu22.out.size)) hu25.out.size)) hu28.out.size)) lbb29.out) hs43.out).trans hu49.out))
  have cl0 := hB0.cell (o := 0) rfl
  have fr0 := hB0.free 0
  have cl1 := hB0.cell (o := 1) rfl
  have fr1 := hB0.free 1
  refine step_store (b := b2) (cs' := [.int .i64 t14, .int .i64 t15]) (T := 30) (W' := ((w48.setCell ⟨b2, 0, none⟩ (.int .i64 t14)).setCell ⟨b2, 1, none⟩ (.int .i64 t15))) rfl rfl (by go_simp <;> rfl) (((Sto.refl _ _).setCell 0 _).setCell 1 _) (((hB0).setCell 0 _).setCell 1 _) ?_
  clear hB0 cl0 fr0 cl1 fr1
  intro w50 hs hb52
  have hs51 := Aside0.mk hs
  clear hs
  have h53 := (hb5.up ((((((((hu10.out.trans hu22.out).trans hu25.out).trans hu28.out).trans hu31.out).sto (Nat.le_trans ((Nat.le_trans (hu10.out.size) hu22.out.size)) lbb23.out) hs33.out).sto (Nat.le_trans ((Nat.le_trans ((Nat.le_trans (hu10.out.size) hu22.out.size)) hu25.out.size)) lbb26.out) hs38.out).sto (Nat.le_trans ((Nat.le_trans ((Nat.le_trans ((Nat.le_trans (hu10.out.size) hu22.out.size)) hu25.out.size)) hu28.out.size)) lbb29.out) hs43.out).trans hu49.out)).sto hs51.out (Ne.symm (Nat.ne_of_lt (Nat.lt_of_lt_of_le ltb2.out lbb5.out)))
  have h54 := (hb8.up (((((((hu22.out.trans hu25.out).trans hu28.out).trans hu31.out).sto (Nat.le_trans (hu22.out.size) lbb23.out) hs33.out).sto (Nat.le_trans ((Nat.le_trans (hu22.out.size) hu25.out.size)) lbb26.out) hs38.out).sto (Nat.le_trans ((Nat.le_trans ((Nat.le_trans (hu22.out.size) hu25.out.size)) hu28.out.size)) lbb29.out) hs43.out).trans hu49.out)).sto hs51.out (Ne.symm (Nat.ne_of_lt (Nat.lt_of_lt_of_le (Nat.lt_of_lt_of_le ltb2.out (hu7.out.size)) lbb8.out)))
  have h55 := (h45.up hu49.out).sto hs51.out (Ne.symm (Nat.ne_of_lt (Nat.lt_of_lt_of_le (Nat.lt_of_lt_of_le ltb2.out ((Nat.le_trans ((Nat.le_trans (hu7.out.size) hu10.out.size)) hu22.out.size))) lbb23.out)))
  have h56 := (h46.up hu49.out).sto hs51.out (Ne.symm (Nat.ne_of_lt (Nat.lt_of_lt_of_le (Nat.lt_of_lt_of_le ltb2.out ((Nat.le_trans ((Nat.le_trans ((Nat.le_trans (hu7.out.size) hu10.out.size)) hu22.out.size)) hu25.out.size))) lbb26.out)))
  have h57 := (hb44.up hu49.out).sto hs51.out (Ne.symm (Nat.ne_of_lt (Nat.lt_of_lt_of_le (Nat.lt_of_lt_of_le ltb2.out ((Nat.le_trans ((Nat.le_trans ((Nat.le_trans ((Nat.le_trans (hu7.out.size) hu10.out.size)) hu22.out.size)) hu25.out.size)) hu28.out.size))) lbb29.out)))
  refine wpList_nil ?_
  refine wrapQ_k ?_
  refine late_consT ⟨h55, h56, h57, True.intro⟩ ?_
  have hB0 := h53
  have cl0 := hB0.cell (o := 0) rfl
  have fr0 := hB0.free 0
  have cl1 := hB0.cell (o := 1) rfl
  have fr1 := hB0.free 1
  refine step_store (b := b5) (cs' := [.int .i64 t16, .int .i64 t17]) (T := 30) (W' := ((w50.setCell ⟨b5, 0, none⟩ (.int .i64 t16)).setCell ⟨b5, 1, none⟩ (.int .i64 t17))) rfl rfl (by go_simp <;> rfl) (((Sto.refl _ _).setCell 0 _).setCell 1 _) (((hB0).setCell 0 _).setCell 1 _) ?_
  clear hB0 cl0 fr0 cl1 fr1
  intro w58 hs hb60
  have hs59 := Aside0.mk hs
  clear hs
  have h61 := hb52.sto hs59.out (Nat.ne_of_lt (Nat.lt_of_lt_of_le ltb2.out lbb5.out))
  have h62 := h54.sto hs59.out (Ne.symm (Nat.ne_of_lt (Nat.lt_of_lt_of_le ltb5.out lbb8.out)))
  have h63 := h55.sto hs59.out (Ne.symm (Nat.ne_of_lt (Nat.lt_of_lt_of_le (Nat.lt_of_lt_of_le ltb5.out ((Nat.le_trans (hu10.out.size) hu22.out.size))) lbb23.out)))
  have h64 := h56.sto hs59.out (Ne.symm (Nat.ne_of_lt (Nat.lt_of_lt_of_le (Nat.lt_of_lt_of_le ltb5.out ((Nat.le_trans ((Nat.le_trans (hu10.out.size) hu22.out.size)) hu25.out.size))) lbb26.out)))
  have h65 := h57.sto hs59.out (Ne.symm (Nat.ne_of_lt (Nat.lt_of_lt_of_le (Nat.lt_of_lt_of_le ltb5.out ((Nat.le_trans ((Nat.le_trans ((Nat.le_trans (hu10.out.size) hu22.out.size)) hu25.out.size)) hu28.out.size))) lbb29.out)))
  refine wpList_nil ?_
  refine wrapQ_k ?_
  refine late_consT ⟨h63, h64, h65, True.intro⟩ ?_
  have hB0 := h62
  have cl0 := hB0.cell (o := 0) rfl
  have fr0 := hB0.free 0
  have cl1 := hB0.cell (o := 1) rfl
  have fr1 := hB0.free 1
  refine step_store (b := b8) (cs' := [.int .i64 t18, .int .i64 t19]) (T := 30) (W' := ((w58.setCell ⟨b8, 0, none⟩ (.int .i64 t18)).setCell ⟨b8, 1, none⟩ (.int .i64 t19))) rfl rfl (by go_simp <;> rfl) (((Sto.refl _ _).setCell 0 _).setCell 1 _) (((hB0).setCell 0 _).setCell 1 _) ?_
  clear hB0 cl0 fr0 cl1 fr1
  intro w66 hs hb68
  have hs67 := Aside0.mk hs
  clear hs
  have h69 := h61.sto hs67.out (Nat.ne_of_lt (Nat.lt_of_lt_of_le (Nat.lt_of_lt_of_le ltb2.out (hu7.out.size)) lbb8.out))
  have h70 := hb60.sto hs67.out (Nat.ne_of_lt (Nat.lt_of_lt_of_le ltb5.out lbb8.out))
  have h71 := h63.sto hs67.out (Ne.symm (Nat.ne_of_lt (Nat.lt_of_lt_of_le (Nat.lt_of_lt_of_le ltb8.out (hu22.out.size)) lbb23.out)))
  have h72 := h64.sto hs67.out (Ne.symm (Nat.ne_of_lt (Nat.lt_of_lt_of_le (Nat.lt_of_lt_of_le ltb8.out ((Nat.le_trans (hu22.out.size) hu25.out.size))) lbb26.out)))
  have h73 := h65.sto hs67.out (Ne.symm (Nat.ne_of_lt (Nat.lt_of_lt_of_le (Nat.lt_of_lt_of_le ltb8.out ((Nat.le_trans ((Nat.le_trans (hu22.out.size) hu25.out.size)) hu28.out.size))) lbb29.out)))
  refine wpList_nil ?_
  refine wrapQ_k ?_
  refine late_nilT ⟨h71, h72, h73, True.intro⟩ ?_
  (try simp only [Exit.then, Exit.inBlock, ↓reduceIte, Nat.reduceEqDiff])
  refine hK47 _ _ ?_
  refine wp_ret ?_
  (try simp only [Exit.then, Exit.inBlock, ↓reduceIte, Nat.reduceEqDiff])
  refine hQf _ _ _ ?_
  have cr0 := h69.cell (o := 0) rfl
  have cr1 := h69.cell (o := 1) rfl
  have cr2 := h70.cell (o := 0) rfl
  have cr3 := h70.cell (o := 1) rfl
  have cr4 := hb68.cell (o := 0) rfl
  have cr5 := hb68.cell (o := 1) rfl
  exact bodyPost_ret (v := .tuple #[.int .i64 t12, .agg #[.int .i64 t14, .int .i64 t15], .agg #[.int .i64 t16, .int .i64 t17], .agg #[.int .i64 t18, .int .i64 t19]]) (by first | rfl | (simp [results, Try.results126, go_sem, cr0, cr1, cr2, cr3, cr4, cr5]; done) | (simp [results, Try.results126, go_sem, cr0, cr1, cr2, cr3, cr4, cr5]; rfl)) rfl ⟨rfl, (((((((((((((hu4.out.trans hu7.out).trans hu10.out).trans hu22.out).trans hu25.out).trans hu28.out).trans hu31.out).sto (Nat.le_trans ((Nat.le_trans ((Nat.le_trans ((Nat.le_trans (hu4.out.size) hu7.out.size)) hu10.out.size)) hu22.out.size)) lbb23.out) hs33.out).sto (Nat.le_trans ((Nat.le_trans ((Nat.le_trans ((Nat.le_trans ((Nat.le_trans (hu4.out.size) hu7.out.size)) hu10.out.size)) hu22.out.size)) hu25.out.size)) lbb26.out) hs38.out).sto (Nat.le_trans ((Nat.le_trans ((Nat.le_trans ((Nat.le_trans ((Nat.le_trans ((Nat.le_trans (hu4.out.size) hu7.out.size)) hu10.out.size)) hu22.out.size)) hu25.out.size)) hu28.out.size)) lbb29.out) hs43.out).trans hu49.out).sto (Nat.le_trans (Nat.le_refl _) lbb2.out) hs51.out).sto (Nat.le_trans (hu4.out.size) lbb5.out) hs59.out).sto (Nat.le_trans ((Nat.le_trans (hu4.out.size) hu7.out.size)) lbb8.out) hs67.out)⟩

set_option maxHeartbeats 40000000 in
set_option maxRecDepth 100000 in
theorem spec_DrawCentroidOf.calls (K : Nat) (a0_A : Option Addr) (a0_c : Nat) (a0 : List (Int)) (r0 : Int) (r1 : Int) (r2 : Int) (r3 : Int) (r4 : Int) (r5 : Int) (r6 : Int) (w : World) (ha0 : Rd eU8 w a0_A a0) (h : spec_DrawCentroidOf.f K a0 = some (r0, r1, r2, r3, r4, r5, r6)) :
    Calls Try.prog 43 #[.slice a0_A a0.length a0_c] w fun e w' => e = .returned (.tuple #[.int .i64 r0, .agg #[.int .i64 r1, .int .i64 r2], .agg #[.int .i64 r3, .int .i64 r4], .agg #[.int .i64 r5, .int .i64 r6]]) ∧ Up w w' := by
 have H : (((spec_DrawMedianOf.f K a0).bind fun (t12, t13, t14, t15, t16, t17, t18) => some (t12, t13, t14, t15, t16, t17, t18)) : Option (Int × Int × Int × Int × Int × Int × Int)) = some (r0, r1, r2, r3, r4, r5, r6) := h
 clear h
 replace H := Option.bind_eq_some_iff.mp H
 obtain ⟨⟨t12, t13, t14, t15, t16, t17, t18⟩, A19, H⟩ := H
 replace A19 := Aside0.mk A19
 try dsimp only at H
 simp only [Option.some.injEq, Prod.mk.injEq] at H
 obtain ⟨rfl, rfl, rfl, rfl, rfl, rfl, rfl⟩ := H
 go_enter Try.func43, Try.ntmps43
 refine wp_hide (fun Qf hQf => ?_)
 refine wp_seq_k (fun K1 hK1 => ?_)
 refine wp_region_lit ?_
 refine wpp fun K_ h_ => ?_; go_simp; refine h_ _ _ ?_; clear h_ K_
 refine step_new (cs := [.int .i64 0, .int .i64 0]) (T := 30) (f := fun b => .pointer (some ⟨b, 0, none⟩)) rfl (by go_simp <;> rfl) ?_
 intro b2 w3 hu lb hb2
 simp only [Act.put, nm1, nm2, nm3, i64_w]
 have lbb2 := Aside0.mk lb
 have ltb2 := Aside0.mk hb2.lt
 clear lb
 have hu4 := Aside0.mk hu
 clear hu
 refine step_new (cs := [.int .i64 0, .int .i64 0]) (T := 30) (f := fun b => .pointer (some ⟨b, 0, none⟩)) rfl (by go_simp <;> rfl) ?_
 intro b5 w6 hu lb hb5
 simp only [Act.put, nm1, nm2, nm3, i64_w]
 have lbb5 := Aside0.mk lb
 have ltb5 := Aside0.mk hb5.lt
 clear lb
 have hu7 := Aside0.mk hu
 clear hu
 refine step_new (cs := [.int .i64 0, .int .i64 0]) (T := 30) (f := fun b => .pointer (some ⟨b, 0, none⟩)) rfl (by go_simp <;> rfl) ?_
 intro b8 w9 hu lb hb8
 simp only [Act.put, nm1, nm2, nm3, i64_w]
 have lbb8 := Aside0.mk lb
 have ltb8 := Aside0.mk hb8.lt
 clear lb
 have hu10 := Aside0.mk hu
 clear hu
 refine wpList_nil ?_
 (try simp only [Exit.then, Exit.inBlock, ↓reduceIte, Nat.reduceEqDiff])
 refine hK1 _ _ ?_
 refine wp_seq_k (fun K11 hK11 => ?_)
 refine wp_region_lit ?_
 refine wpp fun K_ h_ => ?_; go_simp; refine h_ _ _ ?_; clear h_ K_
 refine step_call (wanted_none rfl) (by go_simp <;> rfl) (spec_DrawMedianOf.calls K a0_A a0_c a0 t12 t13 t14 t15 t16 t17 t18 w9 (ha0.up ((hu4.out.trans hu7.out).trans hu10.out)) A19.out) ?_
 rintro e w20 ⟨rfl, hu⟩
 have hu21 := Aside0.mk hu
 clear hu
 refine ⟨_, rfl, ?_⟩
 simp only [Act.put, nm1, nm2, nm3, i64_w]
 refine wpp fun K_ h_ => ?_; go_simp; refine h_ _ _ ?_; clear h_ K_
 refine wpp fun K_ h_ => ?_; go_simp; refine h_ _ _ ?_; clear h_ K_
 refine wpp fun K_ h_ => ?_; go_simp; refine h_ _ _ ?_; clear h_ K_
 refine wpp fun K_ h_ => ?_; go_simp; refine h_ _ _ ?_; clear h_ K_
 refine wpp fun K_ h_ => ?_; go_simp; refine h_ _ _ ?_; clear h_ K_
 have hB0 := (hb2.up ((hu7.out.trans hu10.out).trans hu21.out))
 have cl0 := hB0.cell (o := 0) rfl
 have fr0 := hB0.free 0
 have cl1 := hB0.cell (o := 1) rfl
 have fr1 := hB0.free 1
 refine step_store (b := b2) (cs' := [.int .i64 t13, .int .i64 t14]) (T := 30) (W' := ((w20.setCell ⟨b2, 0, none⟩ (.int .i64 t13)).setCell ⟨b2, 1, none⟩ (.int .i64 t14))) rfl rfl (by go_simp <;> rfl) (((Sto.refl _ _).setCell 0 _).setCell 1 _) (((hB0).setCell 0 _).setCell 1 _) ?_
 clear hB0 cl0 fr0 cl1 fr1
 intro w22 hs hb24
 have hs23 := Aside0.mk hs
 clear hs
 have h25 := (hb5.up (hu10.out.trans hu21.out)).sto hs23.out (Ne.symm (Nat.ne_of_lt (Nat.lt_of_lt_of_le ltb2.out lbb5.out)))
 have h26 := (hb8.up hu21.out).sto hs23.out (Ne.symm (Nat.ne_of_lt (Nat.lt_of_lt_of_le (Nat.lt_of_lt_of_le ltb2.out (hu7.out.size)) lbb8.out)))
 have hB0 := h25
 have cl0 := hB0.cell (o := 0) rfl
 have fr0 := hB0.free 0
 have cl1 := hB0.cell (o := 1) rfl
 have fr1 := hB0.free 1
 refine step_store (b := b5) (cs' := [.int .i64 t15, .int .i64 t16]) (T := 30) (W' := ((w22.setCell ⟨b5, 0, none⟩ (.int .i64 t15)).setCell ⟨b5, 1, none⟩ (.int .i64 t16))) rfl rfl (by go_simp <;> rfl) (((Sto.refl _ _).setCell 0 _).setCell 1 _) (((hB0).setCell 0 _).setCell 1 _) ?_
 clear hB0 cl0 fr0 cl1 fr1
 intro w27 hs hb29
 have hs28 := Aside0.mk hs
 clear hs
 have h30 := hb24.sto hs28.out (Nat.ne_of_lt (Nat.lt_of_lt_of_le ltb2.out lbb5.out))
 have h31 := h26.sto hs28.out (Ne.symm (Nat.ne_of_lt (Nat.lt_of_lt_of_le ltb5.out lbb8.out)))
 have hB0 := h31
 have cl0 := hB0.cell (o := 0) rfl
 have fr0 := hB0.free 0
 have cl1 := hB0.cell (o := 1) rfl
 have fr1 := hB0.free 1
 refine step_store (b := b8) (cs' := [.int .i64 t17, .int .i64 t18]) (T := 30) (W' := ((w27.setCell ⟨b8, 0, none⟩ (.int .i64 t17)).setCell ⟨b8, 1, none⟩ (.int .i64 t18))) rfl rfl (by go_simp <;> rfl) (((Sto.refl _ _).setCell 0 _).setCell 1 _) (((hB0).setCell 0 _).setCell 1 _) ?_
 clear hB0 cl0 fr0 cl1 fr1
 intro w32 hs hb34
 have hs33 := Aside0.mk hs
 clear hs
 have h35 := h30.sto hs33.out (Nat.ne_of_lt (Nat.lt_of_lt_of_le (Nat.lt_of_lt_of_le ltb2.out (hu7.out.size)) lbb8.out))
 have h36 := hb29.sto hs33.out (Nat.ne_of_lt (Nat.lt_of_lt_of_le ltb5.out lbb8.out))
 refine wpList_nil ?_
 (try simp only [Exit.then, Exit.inBlock, ↓reduceIte, Nat.reduceEqDiff])
 refine hK11 _ _ ?_
 refine wp_ret ?_
 (try simp only [Exit.then, Exit.inBlock, ↓reduceIte, Nat.reduceEqDiff])
 refine hQf _ _ _ ?_
 have cr0 := h35.cell (o := 0) rfl
 have cr1 := h35.cell (o := 1) rfl
 have cr2 := h36.cell (o := 0) rfl
 have cr3 := h36.cell (o := 1) rfl
 have cr4 := hb34.cell (o := 0) rfl
 have cr5 := hb34.cell (o := 1) rfl
 exact bodyPost_ret (v := .tuple #[.int .i64 t12, .agg #[.int .i64 t13, .int .i64 t14], .agg #[.int .i64 t15, .int .i64 t16], .agg #[.int .i64 t17, .int .i64 t18]]) (by first | rfl | (simp [results, Try.results43, go_sem, cr0, cr1, cr2, cr3, cr4, cr5]; done) | (simp [results, Try.results43, go_sem, cr0, cr1, cr2, cr3, cr4, cr5]; rfl)) rfl ⟨rfl, ((((((hu4.out.trans hu7.out).trans hu10.out).trans hu21.out).sto (Nat.le_trans (Nat.le_refl _) lbb2.out) hs23.out).sto (Nat.le_trans (hu4.out.size) lbb5.out) hs28.out).sto (Nat.le_trans ((Nat.le_trans (hu4.out.size) hu7.out.size)) lbb8.out) hs33.out)⟩

end Go.Proofs.Ytccbmdpikalpfaa
