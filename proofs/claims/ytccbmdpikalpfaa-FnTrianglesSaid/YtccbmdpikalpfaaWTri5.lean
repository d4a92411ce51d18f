/- The walks: each of these functions of the program computes what its plain function says: laws_FnTriangles. -/
import Derived.Test.YtccbmdpikalpfaaProg
import Derived.Test.YtccbmdpikalpfaaD1
import Derived.WalkKit
import Derived.KernelRfl
import Derived.BigQuiet
import Derived.Deep.LoopGhost
import Derived.Laws.StructEq
import Derived.Test.YtccbmdpikalpfaaWTri4
namespace Go.Proofs.Ytccbmdpikalpfaa
open Go Go.RowKit
attribute [local go_sem] Oper.quiet Oper.quietAt Oper.quietUpon Act.put nm1 nm2 nm3 i64_w
attribute [local irreducible] wpList
set_option linter.unusedVariables false
set_option linter.unusedSimpArgs false
attribute [local go_sem] eqT30
attribute [local go_sem] eqT34

set_option maxHeartbeats 40000000 in
set_option maxRecDepth 100000 in
theorem laws_FnTriangles.calls (K : Nat) (a0_A : Option Addr) (a0_c : Nat) (a0 : List (Int)) (r0 : Bool) (w : World) (ha0 : Rd eU8 w a0_A a0) (h : laws_FnTriangles.f K a0 = some (r0)) :
    Calls Try.prog 5 #[.slice a0_A a0.length a0_c] w fun e w' => e = .returned (.bool r0) ∧ Up w w' := by
 have H : (((laws_big.f K a0).bind fun t4 => (if t4 = true then some true else ((spec_DrawOrthocentreOf.f K a0).bind fun (t11, t12, t13, t14, t15, t16, t17, t18) => ((impl_OrthocentreOf.f K t11 t12 t13 t14 t15 t16 t17 t18).bind fun (t47, t48, t49) => ((spec_OrthocentreOf.f K t11 t12 t13 t14 t15 t16 t17 t18).bind fun (t61, t62, t63) => (if (t49 == t63) = true then (if (t47 == t61 && t48 == t62) = true then ((impl_CircumcentreOf.f K t11 t12 t13 t14 t15 t16 t17 t18).bind fun (t83, t84, t85) => ((spec_CircumcentreOf.f K t11 t12 t13 t14 t15 t16 t17 t18).bind fun (t97, t98, t99) => (if (t85 == t99) = true then (if (t83 == t97 && t84 == t98) = true then ((impl_CircumquadranceOf.f K t11 t12 t13 t14 t15 t16 t17 t18).bind fun (t121, t122) => ((spec_CircumquadranceOf.f K t11 t12 t13 t14 t15 t16 t17 t18).bind fun (t128, t129) => (if (t122 == t129) = true then (if (t121 == t128) = true then ((impl_AltitudeOf.f K t11 t12 t13 t14 t15 t16 t17 t18).bind fun (t137, t138, t139, t140) => ((spec_AltitudeOf.f K t11 t12 t13 t14 t15 t16 t17 t18).bind fun (t152, t153, t154, t155) => (if (t140 == t155) = true then (if (t137 == t152 && (t138 == t153 && t139 == t154)) = true then ((spec_DrawCentroidOf.f K a0).bind fun (t179, t180, t181, t182, t183, t184, t185) => ((impl_CentroidOf.f K t179 t180 t181 t182 t183 t184 t185).bind fun (t214, t215, t216) => ((spec_CentroidOf.f K t179 t180 t181 t182 t183 t184 t185).bind fun (t228, t229, t230) => (if (t216 == t230) = true then (if (t214 == t228 && t215 == t229) = true then ((impl_MedianOf.f K t179 t180 t181 t182 t183 t184 t185).bind fun (t259, t260, t261, t262) => ((spec_MedianOf.f K t179 t180 t181 t182 t183 t184 t185).bind fun (t274, t275, t276, t277) => (if (t262 == t277) = true then (if (t259 == t274 && (t260 == t275 && t261 == t276)) = true then (if (t216 == 0) = true then ((impl_IsOnLine.f K t179 t214 t215 t259 t260 t261).bind fun (t311, t312) => (if (t262 == 0) = true then (if (t312 == 0) = true then (if t311 = true then (if (t49 == 0) = true then ((impl_IsOnLine.f K t11 t47 t48 t137 t138 t139).bind fun (t324, t325) => ((impl_Quadrance.f K t11 t12 t83 t84 t13 t14).bind fun (t330, t331) => ((impl_Quadrance.f K t11 t12 t83 t84 t15 t16).bind fun (t336, t337) => ((impl_Quadrance.f K t11 t12 t83 t84 t17 t18).bind fun (t342, t343) => ((impl_LineThrough.f K t11 t15 t16 t17 t18).bind fun (t348, t349, t350, t351) => ((impl_ArePerpendicular.f K t11 t12 t348 t349 t350 t137 t138 t139).bind fun (t362, t363) => (if (t140 == 0) = true then (if (t325 == 0) = true then (if t324 = true then (if (t331 == 0) = true then (if (t337 == 0) = true then (if (t343 == 0) = true then (if (t330 == t121) = true then (if (t336 == t121) = true then (if (t342 == t121) = true then (if (t351 == 0) = true then (if (t363 == 0) = true then some t362 else some false) else some false) else some false) else some false) else some false) else some false) else some false) else some false) else some false) else some false) else some false))))))) else (if (t47 == 0 && t48 == 0) = true then (if (t85 == t49) = true then some (t122 == t49) else some false) else some false)) else some false) else some false) else some false)) else (if (t49 == 0) = true then ((impl_IsOnLine.f K t11 t47 t48 t137 t138 t139).bind fun (t407, t408) => ((impl_Quadrance.f K t11 t12 t83 t84 t13 t14).bind fun (t413, t414) => ((impl_Quadrance.f K t11 t12 t83 t84 t15 t16).bind fun (t419, t420) => ((impl_Quadrance.f K t11 t12 t83 t84 t17 t18).bind fun (t425, t426) => ((impl_LineThrough.f K t11 t15 t16 t17 t18).bind fun (t431, t432, t433, t434) => ((impl_ArePerpendicular.f K t11 t12 t431 t432 t433 t137 t138 t139).bind fun (t445, t446) => (if (t140 == 0) = true then (if (t408 == 0) = true then (if t407 = true then (if (t414 == 0) = true then (if (t420 == 0) = true then (if (t426 == 0) = true then (if (t413 == t121) = true then (if (t419 == t121) = true then (if (t425 == t121) = true then (if (t434 == 0) = true then (if (t446 == 0) = true then some t445 else some false) else some false) else some false) else some false) else some false) else some false) else some false) else some false) else some false) else some false) else some false))))))) else (if (t47 == 0 && t48 == 0) = true then (if (t85 == t49) = true then some (t122 == t49) else some false) else some false))) else some false) else some false))) else some false) else some false)))) else some false) else some false))) else some false) else some false))) else some false) else some false))) else some false) else some false)))))) : Option (Bool)) = some (r0) := h
 clear h
 replace H := Option.bind_eq_some_iff.mp H
 obtain ⟨t4, A5, H⟩ := H
 replace A5 := Aside0.mk A5
 try dsimp only at H
 go_enter Try.func5, Try.ntmps5
 refine wp_hide (fun Qf hQf => ?_)
 refine wp_seq_k (fun K1 hK1 => ?_)
 refine wp_region_lit ?_
 refine wpp fun K_ h_ => ?_; go_simp; refine h_ _ _ ?_; clear h_ K_
 refine wpList_nil ?_
 (try simp only [Exit.then, Exit.inBlock, ↓reduceIte, Nat.reduceEqDiff])
 refine hK1 _ _ ?_
 refine wp_seq_k (fun K2 hK2 => ?_)
 refine wp_seq_k (fun K3 hK3 => ?_)
 refine wp_region_lit ?_
 refine wpp fun K_ h_ => ?_; go_simp; refine h_ _ _ ?_; clear h_ K_
 refine step_call (wanted_none rfl) (by go_simp <;> rfl) (laws_big.calls K a0_A a0_c a0 t4 w ha0 A5.out) ?_
 rintro e w6 ⟨rfl, hu⟩
 have hu7 := Aside0.mk hu
 clear hu
 refine ⟨_, rfl, ?_⟩
 simp only [Act.put, nm1, nm2, nm3, i64_w]
 refine wpList_nil ?_
 (try simp only [Exit.then, Exit.inBlock, ↓reduceIte, Nat.reduceEqDiff])
 refine hK3 _ _ ?_
 by_cases c8 : (t4) = true
 ·
  rw [if_pos c8] at H
  subst c8
  obtain rfl := Option.some.inj H
  refine wp_cond_true rfl ?_
  refine wp_seq_k (fun K9 hK9 => ?_)
  refine wp_region_lit ?_
  refine wpp fun K_ h_ => ?_; go_simp; refine h_ _ _ ?_; clear h_ K_
  refine wpList_nil ?_
  (try simp only [Exit.then, Exit.inBlock, ↓reduceIte, Nat.reduceEqDiff])
  refine hK9 _ _ ?_
  refine wp_ret ?_
  (try simp only [Exit.then, Exit.inBlock, ↓reduceIte, Nat.reduceEqDiff])
  refine hQf _ _ _ ?_
  exact bodyPost_ret (v := .bool true) (by first | rfl | (simp [results, Try.results5, go_sem]; done) | (simp [results, Try.results5, go_sem]; rfl)) rfl ⟨rfl, hu7.out⟩
 rw [if_neg c8] at H; replace c8 := Bool.eq_false_iff.mpr c8
 subst c8
 replace H := Option.bind_eq_some_iff.mp H
 obtain ⟨⟨t11, t12, t13, t14, t15, t16, t17, t18⟩, A19, H⟩ := H
 replace A19 := Aside0.mk A19
 try dsimp only at H
 replace H := Option.bind_eq_some_iff.mp H
 obtain ⟨⟨t47, t48, t49⟩, A50, H⟩ := H
 replace A50 := Aside0.mk A50
 try dsimp only at H
 replace H := Option.bind_eq_some_iff.mp H
 obtain ⟨⟨t61, t62, t63⟩, A64, H⟩ := H
 replace A64 := Aside0.mk A64
 try dsimp only at H
 refine wp_cond_false rfl ?_
 refine wp_skip ?_
 (try simp only [Exit.then, Exit.inBlock, ↓reduceIte, Nat.reduceEqDiff])
 refine hK2 _ _ ?_
 refine wp_seq_k (fun K10 hK10 => ?_)
 refine wp_region_lit ?_
 refine wpp fun K_ h_ => ?_; go_simp; refine h_ _ _ ?_; clear h_ K_
 refine step_call (wanted_none rfl) (by go_simp <;> rfl) (spec_DrawOrthocentreOf.calls K a0_A a0_c a0 t11 t12 t13 t14 t15 t16 t17 t18 w6 (ha0.up hu7.out) A19.out) ?_
 rintro e w20 ⟨rfl, hu⟩
 have hu21 := Aside0.mk hu
 clear hu
 refine ⟨_, rfl, ?_⟩
 simp only [Act.put, nm1, nm2, nm3, i64_w]
 refine wpp fun K_ h_ => ?_; go_simp; refine h_ _ _ ?_; clear h_ K_
 refine wpp fun K_ h_ => ?_; go_simp; refine h_ _ _ ?_; clear h_ K_
 refine wpp fun K_ h_ => ?_; go_simp; refine h_ _ _ ?_; clear h_ K_
 refine wpp fun K_ h_ => ?_; go_simp; refine h_ _ _ ?_; clear h_ K_
 refine wpp fun K_ h_ => ?_; go_simp; refine h_ _ _ ?_; clear h_ K_
 refine wpp fun K_ h_ => ?_; go_simp; refine h_ _ _ ?_; clear h_ K_
 refine step_new (cs := [.int .i64 0, .int .i64 0]) (T := 30) (f := fun b => .pointer (some ⟨b, 0, none⟩)) rfl (by go_simp <;> rfl) ?_
 intro b22 w23 hu lb hb22
 simp only [Act.put, nm1, nm2, nm3, i64_w]
 have lbb22 := Aside0.mk lb
 have ltb22 := Aside0.mk hb22.lt
 clear lb
 have hu24 := Aside0.mk hu
 clear hu
 refine step_new (cs := [.int .i64 0, .int .i64 0]) (T := 30) (f := fun b => .pointer (some ⟨b, 0, none⟩)) rfl (by go_simp <;> rfl) ?_
 intro b25 w26 hu lb hb25
 simp only [Act.put, nm1, nm2, nm3, i64_w]
 have lbb25 := Aside0.mk lb
 have ltb25 := Aside0.mk hb25.lt
 clear lb
 have hu27 := Aside0.mk hu
 clear hu
 refine step_new (cs := [.int .i64 0, .int .i64 0]) (T := 30) (f := fun b => .pointer (some ⟨b, 0, none⟩)) rfl (by go_simp <;> rfl) ?_
 intro b28 w29 hu lb hb28
 simp only [Act.put, nm1, nm2, nm3, i64_w]
 have lbb28 := Aside0.mk lb
 have ltb28 := Aside0.mk hb28.lt
 clear lb
 have hu30 := Aside0.mk hu
 clear hu
 refine wpp fun K_ h_ => ?_; go_simp; refine h_ _ _ ?_; clear h_ K_
 refine wpp fun K_ h_ => ?_; go_simp; refine h_ _ _ ?_; clear h_ K_
 have hB0 := (hb22.up (hu27.out.trans hu30.out))
 have cl0 := hB0.cell (o := 0) rfl
 have fr0 := hB0.free 0
 have cl1 := hB0.cell (o := 1) rfl
 have fr1 := hB0.free 1
 refine step_store (b := b22) (cs' := [.int .i64 t13, .int .i64 t14]) (T := 30) (W' := ((w29.setCell ⟨b22, 0, none⟩ (.int .i64 t13)).setCell ⟨b22, 1, none⟩ (.int .i64 t14))) rfl rfl (by go_simp <;> rfl) (((Sto.refl _ _).setCell 0 _).setCell 1 _) (((hB0).setCell 0 _).setCell 1 _) ?_
 clear hB0 cl0 fr0 cl1 fr1
 intro w31 hs hb33
 have hs32 := Aside0.mk hs
 clear hs
 have h34 := (hb25.up hu30.out).sto hs32.out (Ne.symm (Nat.ne_of_lt (Nat.lt_of_lt_of_le ltb22.out lbb25.out)))
 have h35 := hb28.sto hs32.out (Ne.symm (Nat.ne_of_lt (Nat.lt_of_lt_of_le (Nat.lt_of_lt_of_le ltb22.out (hu27.out.size)) lbb28.out)))
 have hB0 := h34
 have cl0 := hB0.cell (o := 0) rfl
 have fr0 := hB0.free 0
 have cl1 := hB0.cell (o := 1) rfl
 have fr1 := hB0.free 1
 refine step_store (b := b25) (cs' := [.int .i64 t15, .int .i64 t16]) (T := 30) (W' := ((w31.setCell ⟨b25, 0, none⟩ (.int .i64 t15)).setCell ⟨b25, 1, none⟩ (.int .i64 t16))) rfl rfl (by go_simp <;> rfl) (((Sto.refl _ _).setCell 0 _).setCell 1 _) (((hB0).setCell 0 _).setCell 1 _) ?_
 clear hB0 cl0 fr0 cl1 fr1
 intro w36 hs hb38
 have hs37 := Aside0.mk hs
 clear hs
 have h39 := hb33.sto hs37.out (Nat.ne_of_lt (Nat.lt_of_lt_of_le ltb22.out lbb25.out))
 have h40 := h35.sto hs37.out (Ne.symm (Nat.ne_of_lt (Nat.lt_of_lt_of_le ltb25.out lbb28.out)))
 have hB0 := h40
 have cl0 := hB0.cell (o := 0) rfl
 have fr0 := hB0.free 0
 have cl1 := hB0.cell (o := 1) rfl
 have fr1 := hB0.free 1
 refine step_store (b := b28) (cs' := [.int .i64 t17, .int .i64 t18]) (T := 30) (W' := ((w36.setCell ⟨b28, 0, none⟩ (.int .i64 t17)).setCell ⟨b28, 1, none⟩ (.int .i64 t18))) rfl rfl (by go_simp <;> rfl) (((Sto.refl _ _).setCell 0 _).setCell 1 _) (((hB0).setCell 0 _).setCell 1 _) ?_
 clear hB0 cl0 fr0 cl1 fr1
 intro w41 hs hb43
 have hs42 := Aside0.mk hs
 clear hs
 have h44 := h39.sto hs42.out (Nat.ne_of_lt (Nat.lt_of_lt_of_le (Nat.lt_of_lt_of_le ltb22.out (hu27.out.size)) lbb28.out))
 have h45 := hb38.sto hs42.out (Nat.ne_of_lt (Nat.lt_of_lt_of_le ltb25.out lbb28.out))
 refine wpList_nil ?_
 (try simp only [Exit.then, Exit.inBlock, ↓reduceIte, Nat.reduceEqDiff])
 refine hK10 _ _ ?_
 as_aux_lemma =>
 refine wp_seq_k (fun K46 hK46 => ?_)
 refine wp_region_lit ?_
 refine wpp fun K_ h_ => ?_; go_simp; refine h_ _ _ ?_; clear h_ K_
 refine wpp fun K_ h_ => ?_; go_simp; refine h_ _ _ ?_; clear h_ K_
 have cl0 := h44.cell (o := 0) rfl
 have cl1 := h44.cell (o := 1) rfl
 refine wpp fun K_ h_ => ?_; go_simp; refine h_ _ _ ?_; clear h_ K_
 clear cl0 cl1
 have cl0 := h45.cell (o := 0) rfl
 have cl1 := h45.cell (o := 1) rfl
 refine wpp fun K_ h_ => ?_; go_simp; refine h_ _ _ ?_; clear h_ K_
 clear cl0 cl1
 have cl0 := hb43.cell (o := 0) rfl
 have cl1 := hb43.cell (o := 1) rfl
 refine wpp fun K_ h_ => ?_; go_simp; refine h_ _ _ ?_; clear h_ K_
 clear cl0 cl1
 refine step_call (wanted_none rfl) (by go_simp <;> rfl) (impl_OrthocentreOf.calls K t11 t12 t13 t14 t15 t16 t17 t18 t47 t48 t49 w41  A50.out) ?_
 rintro e w51 ⟨rfl, hu⟩
 have hu52 := Aside0.mk hu
 clear hu
 refine ⟨_, rfl, ?_⟩
 simp only [Act.put, nm1, nm2, nm3, i64_w]
 refine wpp fun K_ h_ => ?_; go_simp; refine h_ _ _ ?_; clear h_ K_
 refine wpp fun K_ h_ => ?_; go_simp; refine h_ _ _ ?_; clear h_ K_
 refine wpp fun K_ h_ => ?_; go_simp; refine h_ _ _ ?_; clear h_ K_
 refine step_new (cs := [.int .i64 0, .int .i64 0]) (T := 30) (f := fun b => .pointer (some ⟨b, 0, none⟩)) rfl (by go_simp <;> rfl) ?_
 intro b53 w54 hu lb hb53
 simp only [Act.put, nm1, nm2, nm3, i64_w]
 have lbb53 := Aside0.mk lb
 have ltb53 := Aside0.mk hb53.lt
 clear lb
 have hu55 := Aside0.mk hu
 clear hu
 have hB0 := hb53
 have cl0 := hB0.cell (o := 0) rfl
 have fr0 := hB0.free 0
 have cl1 := hB0.cell (o := 1) rfl
 have fr1 := hB0.free 1
 refine step_store (b := b53) (cs' := [.int .i64 t47, .int .i64 t48]) (T := 30) (W' := ((w54.setCell ⟨b53, 0, none⟩ (.int .i64 t47)).setCell ⟨b53, 1, none⟩ (.int .i64 t48))) rfl rfl (by go_simp <;> rfl) (((Sto.refl _ _).setCell 0 _).setCell 1 _) (((hB0).setCell 0 _).setCell 1 _) ?_
 clear hB0 cl0 fr0 cl1 fr1
 intro w56 hs hb58
 have hs57 := Aside0.mk hs
 clear hs
 refine wpp fun K_ h_ => ?_; go_simp; refine h_ _ _ ?_; clear h_ K_
 refine wpList_nil ?_
 (try simp only [Exit.then, Exit.inBlock, ↓reduceIte, Nat.reduceEqDiff])
 refine hK46 _ _ ?_
 refine wp_seq_k (fun K59 hK59 => ?_)
 refine wp_seq_k (fun K60 hK60 => ?_)
 refine wp_region_lit ?_
 refine wpp fun K_ h_ => ?_; go_simp; refine h_ _ _ ?_; clear h_ K_
 refine wpp fun K_ h_ => ?_; go_simp; refine h_ _ _ ?_; clear h_ K_
 have cl0 := (h44.up ((hu52.out.trans hu55.out).sto (Nat.le_trans (hu52.out.size) lbb53.out) hs57.out)).cell (o := 0) rfl
 have cl1 := (h44.up ((hu52.out.trans hu55.out).sto (Nat.le_trans (hu52.out.size) lbb53.out) hs57.out)).cell (o := 1) rfl
 refine wpp fun K_ h_ => ?_; go_simp; refine h_ _ _ ?_; clear h_ K_
 clear cl0 cl1
 have cl0 := (h45.up ((hu52.out.trans hu55.out).sto (Nat.le_trans (hu52.out.size) lbb53.out) hs57.out)).cell (o := 0) rfl
 have cl1 := (h45.up ((hu52.out.trans hu55.out).sto (Nat.le_trans (hu52.out.size) lbb53.out) hs57.out)).cell (o := 1) rfl
 refine wpp fun K_ h_ => ?_; go_simp; refine h_ _ _ ?_; clear h_ K_
 clear cl0 cl1
 have cl0 := (hb43.up ((hu52.out.trans hu55.out).sto (Nat.le_trans (hu52.out.size) lbb53.out) hs57.out)).cell (o := 0) rfl
 have cl1 := (hb43.up ((hu52.out.trans hu55.out).sto (Nat.le_trans (hu52.out.size) lbb53.out) hs57.out)).cell (o := 1) rfl
 refine wpp fun K_ h_ => ?_; go_simp; refine h_ _ _ ?_; clear h_ K_
 clear cl0 cl1
 refine step_call (wanted_none rfl) (by go_simp <;> rfl) (spec_OrthocentreOf.calls K t11 t12 t13 t14 t15 t16 t17 t18 t61 t62 t63 w56  A64.out) ?_
 rintro e w65 ⟨rfl, hu⟩
 have hu66 := Aside0.mk hu
 clear hu
 refine ⟨_, rfl, ?_⟩
 simp only [Act.put, nm1, nm2, nm3, i64_w]
 refine wpp fun K_ h_ => ?_; go_simp; refine h_ _ _ ?_; clear h_ K_
 refine wpp fun K_ h_ => ?_; go_simp; refine h_ _ _ ?_; clear h_ K_
 refine wpp fun K_ h_ => ?_; go_simp; refine h_ _ _ ?_; clear h_ K_
 refine step_new (cs := [.int .i64 0, .int .i64 0]) (T := 30) (f := fun b => .pointer (some ⟨b, 0, none⟩)) rfl (by go_simp <;> rfl) ?_
 intro b67 w68 hu lb hb67
 simp only [Act.put, nm1, nm2, nm3, i64_w]
 have lbb67 := Aside0.mk lb
 have ltb67 := Aside0.mk hb67.lt
 clear lb
 have hu69 := Aside0.mk hu
 clear hu
 have hB0 := hb67
 have cl0 := hB0.cell (o := 0) rfl
 have fr0 := hB0.free 0
 have cl1 := hB0.cell (o := 1) rfl
 have fr1 := hB0.free 1
 refine step_store (b := b67) (cs' := [.int .i64 t61, .int .i64 t62]) (T := 30) (W' := ((w68.setCell ⟨b67, 0, none⟩ (.int .i64 t61)).setCell ⟨b67, 1, none⟩ (.int .i64 t62))) rfl rfl (by go_simp <;> rfl) (((Sto.refl _ _).setCell 0 _).setCell 1 _) (((hB0).setCell 0 _).setCell 1 _) ?_
 clear hB0 cl0 fr0 cl1 fr1
 intro w70 hs hb72
 have hs71 := Aside0.mk hs
 clear hs
 refine wpp fun K_ h_ => ?_; go_simp; refine h_ _ _ ?_; clear h_ K_
 refine wpList_nil ?_
 (try simp only [Exit.then, Exit.inBlock, ↓reduceIte, Nat.reduceEqDiff])
 refine hK60 _ _ ?_
 as_aux_lemma =>
 refine wp_seq_k (fun K73 hK73 => ?_)
 refine wp_region_lit ?_
 refine wpp fun K_ h_ => ?_; go_simp; refine h_ _ _ ?_; clear h_ K_
 refine wpp fun K_ h_ => ?_; go_simp; refine h_ _ _ ?_; clear h_ K_
 refine wpp fun K_ h_ => ?_; go_simp; refine h_ _ _ ?_; clear h_ K_
 refine wpp fun K_ h_ => ?_; go_simp; refine h_ _ _ ?_; clear h_ K_
 have hm75 := Aside0.mk (((((((((((((hu7.out.trans hu21.out).trans hu24.out).trans hu27.out).trans hu30.out).sto (Nat.le_trans ((Nat.le_trans (hu7.out.size) hu21.out.size)) lbb22.out) hs32.out).sto (Nat.le_trans ((Nat.le_trans ((Nat.le_trans (hu7.out.size) hu21.out.size)) hu24.out.size)) lbb25.out) hs37.out).sto (Nat.le_trans ((Nat.le_trans ((Nat.le_trans ((Nat.le_trans (hu7.out.size) hu21.out.size)) hu24.out.size)) hu27.out.size)) lbb28.out) hs42.out).trans hu52.out).trans hu55.out).sto (Nat.le_trans ((Nat.le_trans ((Nat.le_trans ((Nat.le_trans ((Nat.le_trans ((Nat.le_trans ((Nat.le_trans ((Nat.le_trans ((Nat.le_trans (hu7.out.size) hu21.out.size)) hu24.out.size)) hu27.out.size)) hu30.out.size)) (Nat.le_of_eq hs32.out.size.symm))) (Nat.le_of_eq hs37.out.size.symm))) (Nat.le_of_eq hs42.out.size.symm))) hu52.out.size)) lbb53.out) hs57.out).trans hu66.out).trans hu69.out).sto (Nat.le_trans ((Nat.le_trans ((Nat.le_trans ((Nat.le_trans ((Nat.le_trans ((Nat.le_trans ((Nat.le_trans ((Nat.le_trans ((Nat.le_trans ((Nat.le_trans ((Nat.le_trans ((Nat.le_trans (hu7.out.size) hu21.out.size)) hu24.out.size)) hu27.out.size)) hu30.out.size)) (Nat.le_of_eq hs32.out.size.symm))) (Nat.le_of_eq hs37.out.size.symm))) (Nat.le_of_eq hs42.out.size.symm))) hu52.out.size)) hu55.out.size)) (Nat.le_of_eq hs57.out.size.symm))) hu66.out.size)) lbb67.out) hs71.out)
 have hm76 := Aside0.mk (Nat.le_trans ((Nat.le_trans ((Nat.le_trans ((Nat.le_trans ((Nat.le_trans ((Nat.le_trans ((Nat.le_trans ((Nat.le_trans ((Nat.le_trans ((Nat.le_trans ((Nat.le_trans ((Nat.le_trans ((Nat.le_trans (hu7.out.size) hu21.out.size)) hu24.out.size)) hu27.out.size)) hu30.out.size)) (Nat.le_of_eq hs32.out.size.symm))) (Nat.le_of_eq hs37.out.size.symm))) (Nat.le_of_eq hs42.out.size.symm))) hu52.out.size)) hu55.out.size)) (Nat.le_of_eq hs57.out.size.symm))) hu66.out.size)) hu69.out.size)) (Nat.le_of_eq hs71.out.size.symm))
 have h77 := (h44.up (((((hu52.out.trans hu55.out).sto (Nat.le_trans (hu52.out.size) lbb53.out) hs57.out).trans hu66.out).trans hu69.out).sto (Nat.le_trans ((Nat.le_trans ((Nat.le_trans ((Nat.le_trans (hu52.out.size) hu55.out.size)) (Nat.le_of_eq hs57.out.size.symm))) hu66.out.size)) lbb67.out) hs71.out))
 have h78 := (h45.up (((((hu52.out.trans hu55.out).sto (Nat.le_trans (hu52.out.size) lbb53.out) hs57.out).trans hu66.out).trans hu69.out).sto (Nat.le_trans ((Nat.le_trans ((Nat.le_trans ((Nat.le_trans (hu52.out.size) hu55.out.size)) (Nat.le_of_eq hs57.out.size.symm))) hu66.out.size)) lbb67.out) hs71.out))
 have h79 := (hb43.up (((((hu52.out.trans hu55.out).sto (Nat.le_trans (hu52.out.size) lbb53.out) hs57.out).trans hu66.out).trans hu69.out).sto (Nat.le_trans ((Nat.le_trans ((Nat.le_trans ((Nat.le_trans (hu52.out.size) hu55.out.size)) (Nat.le_of_eq hs57.out.size.symm))) hu66.out.size)) lbb67.out) hs71.out))
 have h80 := (hb58.up ((hu66.out.trans hu69.out).sto (Nat.le_trans (hu66.out.size) lbb67.out) hs71.out))
 by_cases c74 : (t49 == t63) = true
 rotate_left
 ·
  rw [if_neg c74] at H; replace c74 := Bool.eq_false_iff.mpr c74
  have c74n : (t49 != t63) = true := by rw [bne, c74]; rfl
  have c74p : ¬ t49 = t63 := fun e => by simp [e] at c74
  obtain rfl := Option.some.inj H
  try simp only [c74, c74n, Bool.not_true, Bool.not_false]
  refine step_no rfl ?_
  simp only [Act.put, nm1, nm2, nm3, i64_w]
  refine step_no rfl ?_
  simp only [Act.put, nm1, nm2, nm3, i64_w]
  refine step_no rfl ?_
  simp only [Act.put, nm1, nm2, nm3, i64_w]
  refine wpp fun K_ h_ => ?_; go_simp; refine h_ _ _ ?_; clear h_ K_
  refine wpList_nil ?_
  (try simp only [Exit.then, Exit.inBlock, ↓reduceIte, Nat.reduceEqDiff])
  refine hK73 _ _ ?_
  refine wp_cond_true rfl ?_
  refine wp_seq_k (fun K494 hK494 => ?_)
  refine wp_region_lit ?_
  refine wpp fun K_ h_ => ?_; go_simp; refine h_ _ _ ?_; clear h_ K_
  refine wpList_nil ?_
  (try simp only [Exit.then, Exit.inBlock, ↓reduceIte, Nat.reduceEqDiff])
  refine hK494 _ _ ?_
  refine wp_ret ?_
  (try simp only [Exit.then, Exit.inBlock, ↓reduceIte, Nat.reduceEqDiff])
  refine hQf _ _ _ ?_
  exact bodyPost_ret (v := .bool false) (by first | rfl | (simp [results, Try.results5, go_sem]; done) | (simp [results, Try.results5, go_sem]; rfl)) rfl ⟨rfl, hm75.out⟩
 rw [if_pos c74] at H
 have c74n : (t49 != t63) = false := by rw [bne, c74]; rfl
 try simp only [c74, c74n, Bool.not_true, Bool.not_false]
 have cl0 := h80.cell (o := 0) rfl
 have cl1 := h80.cell (o := 1) rfl
 refine wpList_step fun K_ h_ => ?_; go_simp; refine h_ _ _ ?_; clear h_ K_
 clear cl0 cl1
 have cl0 := hb72.cell (o := 0) rfl
 have cl1 := hb72.cell (o := 1) rfl
 refine wpList_step fun K_ h_ => ?_; go_simp; refine h_ _ _ ?_; clear h_ K_
 clear cl0 cl1
 refine wpList_step fun K_ h_ => ?_; go_simp; refine h_ _ _ ?_; clear h_ K_
 refine wpp fun K_ h_ => ?_; go_simp; refine h_ _ _ ?_; clear h_ K_
 refine wpList_nil ?_
 (try simp only [Exit.then, Exit.inBlock, ↓reduceIte, Nat.reduceEqDiff])
 refine hK73 _ _ ?_
 by_cases c81 : (t47 == t61 && t48 == t62) = true
 rotate_left
 ·
  rw [if_neg c81] at H; replace c81 := Bool.eq_false_iff.mpr c81
  have c81n : (!t47 == t61 || !t48 == t62) = true := by simp only [← Bool.not_and, c81, Bool.not_true, Bool.not_false]
  obtain rfl := Option.some.inj H
  try simp only [c81, c81n, Bool.not_true, Bool.not_false]
  refine wp_cond_true rfl ?_
  refine wp_seq_k (fun K493 hK493 => ?_)
  refine wp_region_lit ?_
  refine wpp fun K_ h_ => ?_; go_simp; refine h_ _ _ ?_; clear h_ K_
  refine wpList_nil ?_
  (try simp only [Exit.then, Exit.inBlock, ↓reduceIte, Nat.reduceEqDiff])
  refine hK493 _ _ ?_
  refine wp_ret ?_
  (try simp only [Exit.then, Exit.inBlock, ↓reduceIte, Nat.reduceEqDiff])
  refine hQf _ _ _ ?_
  exact bodyPost_ret (v := .bool false) (by first | rfl | (simp [results, Try.results5, go_sem]; done) | (simp [results, Try.results5, go_sem]; rfl)) rfl ⟨rfl, hm75.out⟩
 rw [if_pos c81] at H
 have c81n : (!t47 == t61 || !t48 == t62) = false := by simp only [← Bool.not_and, c81, Bool.not_true, Bool.not_false]
 replace H := Option.bind_eq_some_iff.mp H
 obtain ⟨⟨t83, t84, t85⟩, A86, H⟩ := H
 replace A86 := Aside0.mk A86
 try dsimp only at H
 replace H := Option.bind_eq_some_iff.mp H
 obtain ⟨⟨t97, t98, t99⟩, A100, H⟩ := H
 replace A100 := Aside0.mk A100
 try dsimp only at H
 try simp only [c81, c81n, Bool.not_true, Bool.not_false]
 refine wp_cond_false rfl ?_
 refine wp_skip ?_
 (try simp only [Exit.then, Exit.inBlock, ↓reduceIte, Nat.reduceEqDiff])
 refine hK59 _ _ ?_
 as_aux_lemma =>
 refine wp_seq_k (fun K82 hK82 => ?_)
 refine wp_region_lit ?_
 refine wpp fun K_ h_ => ?_; go_simp; refine h_ _ _ ?_; clear h_ K_
 refine wpp fun K_ h_ => ?_; go_simp; refine h_ _ _ ?_; clear h_ K_
 have cl0 := h77.cell (o := 0) rfl
 have cl1 := h77.cell (o := 1) rfl
 refine wpp fun K_ h_ => ?_; go_simp; refine h_ _ _ ?_; clear h_ K_
 clear cl0 cl1
 have cl0 := h78.cell (o := 0) rfl
 have cl1 := h78.cell (o := 1) rfl
 refine wpp fun K_ h_ => ?_; go_simp; refine h_ _ _ ?_; clear h_ K_
 clear cl0 cl1
 have cl0 := h79.cell (o := 0) rfl
 have cl1 := h79.cell (o := 1) rfl
 refine wpp fun K_ h_ => ?_; go_simp; refine h_ _ _ ?_; clear h_ K_
 clear cl0 cl1
 refine step_call (wanted_none rfl) (by go_simp <;> rfl) (impl_CircumcentreOf.calls K t11 t12 t13 t14 t15 t16 t17 t18 t83 t84 t85 w70  A86.out) ?_
 rintro e w87 ⟨rfl, hu⟩
 have hu88 := Aside0.mk hu
 clear hu
 refine ⟨_, rfl, ?_⟩
 simp only [Act.put, nm1, nm2, nm3, i64_w]
 refine wpp fun K_ h_ => ?_; go_simp; refine h_ _ _ ?_; clear h_ K_
 refine wpp fun K_ h_ => ?_; go_simp; refine h_ _ _ ?_; clear h_ K_
 refine wpp fun K_ h_ => ?_; go_simp; refine h_ _ _ ?_; clear h_ K_
 refine step_new (cs := [.int .i64 0, .int .i64 0]) (T := 30) (f := fun b => .pointer (some ⟨b, 0, none⟩)) rfl (by go_simp <;> rfl) ?_
 intro b89 w90 hu lb hb89
 simp only [Act.put, nm1, nm2, nm3, i64_w]
 have lbb89 := Aside0.mk lb
 have ltb89 := Aside0.mk hb89.lt
 clear lb
 have hu91 := Aside0.mk hu
 clear hu
 have hB0 := hb89
 have cl0 := hB0.cell (o := 0) rfl
 have fr0 := hB0.free 0
 have cl1 := hB0.cell (o := 1) rfl
 have fr1 := hB0.free 1
 refine step_store (b := b89) (cs' := [.int .i64 t83, .int .i64 t84]) (T := 30) (W' := ((w90.setCell ⟨b89, 0, none⟩ (.int .i64 t83)).setCell ⟨b89, 1, none⟩ (.int .i64 t84))) rfl rfl (by go_simp <;> rfl) (((Sto.refl _ _).setCell 0 _).setCell 1 _) (((hB0).setCell 0 _).setCell 1 _) ?_
 clear hB0 cl0 fr0 cl1 fr1
 intro w92 hs hb94
 have hs93 := Aside0.mk hs
 clear hs
 refine wpp fun K_ h_ => ?_; go_simp; refine h_ _ _ ?_; clear h_ K_
 refine wpList_nil ?_
 (try simp only [Exit.then, Exit.inBlock, ↓reduceIte, Nat.reduceEqDiff])
 refine hK82 _ _ ?_
 refine wp_seq_k (fun K95 hK95 => ?_)
 refine wp_seq_k (fun K96 hK96 => ?_)
 refine wp_region_lit ?_
 refine wpp fun K_ h_ => ?_; go_simp; refine h_ _ _ ?_; clear h_ K_
 refine wpp fun K_ h_ => ?_; go_simp; refine h_ _ _ ?_; clear h_ K_
 have cl0 := (h77.up ((hu88.out.trans hu91.out).sto (Nat.le_trans (hu88.out.size) lbb89.out) hs93.out)).cell (o := 0) rfl
 have cl1 := (h77.up ((hu88.out.trans hu91.out).sto (Nat.le_trans (hu88.out.size) lbb89.out) hs93.out)).cell (o := 1) rfl
 refine wpp fun K_ h_ => ?_; go_simp; refine h_ _ _ ?_; clear h_ K_
 clear cl0 cl1
 have cl0 := (h78.up ((hu88.out.trans hu91.out).sto (Nat.le_trans (hu88.out.size) lbb89.out) hs93.out)).cell (o := 0) rfl
 have cl1 := (h78.up ((hu88.out.trans hu91.out).sto (Nat.le_trans (hu88.out.size) lbb89.out) hs93.out)).cell (o := 1) rfl
 refine wpp fun K_ h_ => ?_; go_simp; refine h_ _ _ ?_; clear h_ K_
 clear cl0 cl1
 have cl0 := (h79.up ((hu88.out.trans hu91.out).sto (Nat.le_trans (hu88.out.size) lbb89.out) hs93.out)).cell (o := 0) rfl
 have cl1 := (h79.up ((hu88.out.trans hu91.out).sto (Nat.le_trans (hu88.out.size) lbb89.out) hs93.out)).cell (o := 1) rfl
 refine wpp fun K_ h_ => ?_; go_simp; refine h_ _ _ ?_; clear h_ K_
 clear cl0 cl1
 refine step_call (wanted_none rfl) (by go_simp <;> rfl) (spec_CircumcentreOf.calls K t11 t12 t13 t14 t15 t16 t17 t18 t97 t98 t99 w92  A100.out) ?_
 rintro e w101 ⟨rfl, hu⟩
 have hu102 := Aside0.mk hu
 clear hu
 refine ⟨_, rfl, ?_⟩
 simp only [Act.put, nm1, nm2, nm3, i64_w]
 refine wpp fun K_ h_ => ?_; go_simp; refine h_ _ _ ?_; clear h_ K_
 refine wpp fun K_ h_ => ?_; go_simp; refine h_ _ _ ?_; clear h_ K_
 refine wpp fun K_ h_ => ?_; go_simp; refine h_ _ _ ?_; clear h_ K_
 refine step_new (cs := [.int .i64 0, .int .i64 0]) (T := 30) (f := fun b => .pointer (some ⟨b, 0, none⟩)) rfl (by go_simp <;> rfl) ?_
 intro b103 w104 hu lb hb103
 simp only [Act.put, nm1, nm2, nm3, i64_w]
 have lbb103 := Aside0.mk lb
 have ltb103 := Aside0.mk hb103.lt
 clear lb
 have hu105 := Aside0.mk hu
 clear hu
 have hB0 := hb103
 have cl0 := hB0.cell (o := 0) rfl
 have fr0 := hB0.free 0
 have cl1 := hB0.cell (o := 1) rfl
 have fr1 := hB0.free 1
 refine step_store (b := b103) (cs' := [.int .i64 t97, .int .i64 t98]) (T := 30) (W' := ((w104.setCell ⟨b103, 0, none⟩ (.int .i64 t97)).setCell ⟨b103, 1, none⟩ (.int .i64 t98))) rfl rfl (by go_simp <;> rfl) (((Sto.refl _ _).setCell 0 _).setCell 1 _) (((hB0).setCell 0 _).setCell 1 _) ?_
 clear hB0 cl0 fr0 cl1 fr1
 intro w106 hs hb108
 have hs107 := Aside0.mk hs
 clear hs
 refine wpp fun K_ h_ => ?_; go_simp; refine h_ _ _ ?_; clear h_ K_
 refine wpList_nil ?_
 (try simp only [Exit.then, Exit.inBlock, ↓reduceIte, Nat.reduceEqDiff])
 refine hK96 _ _ ?_
 as_aux_lemma =>
 refine wp_seq_k (fun K109 hK109 => ?_)
 refine wp_region_lit ?_
 refine wpp fun K_ h_ => ?_; go_simp; refine h_ _ _ ?_; clear h_ K_
 refine wpp fun K_ h_ => ?_; go_simp; refine h_ _ _ ?_; clear h_ K_
 refine wpp fun K_ h_ => ?_; go_simp; refine h_ _ _ ?_; clear h_ K_
 refine wpp fun K_ h_ => ?_; go_simp; refine h_ _ _ ?_; clear h_ K_
 have hm111 := Aside0.mk ((((((hm75.out.trans hu88.out).trans hu91.out).sto (Nat.le_trans ((Nat.le_trans (hm76.out) hu88.out.size)) lbb89.out) hs93.out).trans hu102.out).trans hu105.out).sto (Nat.le_trans ((Nat.le_trans ((Nat.le_trans ((Nat.le_trans ((Nat.le_trans (hm76.out) hu88.out.size)) hu91.out.size)) (Nat.le_of_eq hs93.out.size.symm))) hu102.out.size)) lbb103.out) hs107.out)
 have hm112 := Aside0.mk (Nat.le_trans ((Nat.le_trans ((Nat.le_trans ((Nat.le_trans ((Nat.le_trans ((Nat.le_trans (hm76.out) hu88.out.size)) hu91.out.size)) (Nat.le_of_eq hs93.out.size.symm))) hu102.out.size)) hu105.out.size)) (Nat.le_of_eq hs107.out.size.symm))
 have h113 := (h77.up (((((hu88.out.trans hu91.out).sto (Nat.le_trans (hu88.out.size) lbb89.out) hs93.out).trans hu102.out).trans hu105.out).sto (Nat.le_trans ((Nat.le_trans ((Nat.le_trans ((Nat.le_trans (hu88.out.size) hu91.out.size)) (Nat.le_of_eq hs93.out.size.symm))) hu102.out.size)) lbb103.out) hs107.out))
 have h114 := (h78.up (((((hu88.out.trans hu91.out).sto (Nat.le_trans (hu88.out.size) lbb89.out) hs93.out).trans hu102.out).trans hu105.out).sto (Nat.le_trans ((Nat.le_trans ((Nat.le_trans ((Nat.le_trans (hu88.out.size) hu91.out.size)) (Nat.le_of_eq hs93.out.size.symm))) hu102.out.size)) lbb103.out) hs107.out))
 have h115 := (h79.up (((((hu88.out.trans hu91.out).sto (Nat.le_trans (hu88.out.size) lbb89.out) hs93.out).trans hu102.out).trans hu105.out).sto (Nat.le_trans ((Nat.le_trans ((Nat.le_trans ((Nat.le_trans (hu88.out.size) hu91.out.size)) (Nat.le_of_eq hs93.out.size.symm))) hu102.out.size)) lbb103.out) hs107.out))
 have h116 := (h80.up (((((hu88.out.trans hu91.out).sto (Nat.le_trans (hu88.out.size) lbb89.out) hs93.out).trans hu102.out).trans hu105.out).sto (Nat.le_trans ((Nat.le_trans ((Nat.le_trans ((Nat.le_trans (hu88.out.size) hu91.out.size)) (Nat.le_of_eq hs93.out.size.symm))) hu102.out.size)) lbb103.out) hs107.out))
 have h117 := (hb72.up (((((hu88.out.trans hu91.out).sto (Nat.le_trans (hu88.out.size) lbb89.out) hs93.out).trans hu102.out).trans hu105.out).sto (Nat.le_trans ((Nat.le_trans ((Nat.le_trans ((Nat.le_trans (hu88.out.size) hu91.out.size)) (Nat.le_of_eq hs93.out.size.symm))) hu102.out.size)) lbb103.out) hs107.out))
 have h118 := (hb94.up ((hu102.out.trans hu105.out).sto (Nat.le_trans (hu102.out.size) lbb103.out) hs107.out))
 by_cases c110 : (t85 == t99) = true
 rotate_left
 ·
  rw [if_neg c110] at H; replace c110 := Bool.eq_false_iff.mpr c110
  have c110n : (t85 != t99) = true := by rw [bne, c110]; rfl
  have c110p : ¬ t85 = t99 := fun e => by simp [e] at c110
  obtain rfl := Option.some.inj H
  try simp only [c110, c110n, Bool.not_true, Bool.not_false]
  refine step_no rfl ?_
  simp only [Act.put, nm1, nm2, nm3, i64_w]
  refine step_no rfl ?_
  simp only [Act.put, nm1, nm2, nm3, i64_w]
  refine step_no rfl ?_
  simp only [Act.put, nm1, nm2, nm3, i64_w]
  refine wpp fun K_ h_ => ?_; go_simp; refine h_ _ _ ?_; clear h_ K_
  refine wpList_nil ?_
  (try simp only [Exit.then, Exit.inBlock, ↓reduceIte, Nat.reduceEqDiff])
  refine hK109 _ _ ?_
  refine wp_cond_true rfl ?_
  refine wp_seq_k (fun K492 hK492 => ?_)
  refine wp_region_lit ?_
  refine wpp fun K_ h_ => ?_; go_simp; refine h_ _ _ ?_; clear h_ K_
  refine wpList_nil ?_
  (try simp only [Exit.then, Exit.inBlock, ↓reduceIte, Nat.reduceEqDiff])
  refine hK492 _ _ ?_
  refine wp_ret ?_
  (try simp only [Exit.then, Exit.inBlock, ↓reduceIte, Nat.reduceEqDiff])
  refine hQf _ _ _ ?_
  exact bodyPost_ret (v := .bool false) (by first | rfl | (simp [results, Try.results5, go_sem]; done) | (simp [results, Try.results5, go_sem]; rfl)) rfl ⟨rfl, hm111.out⟩
 rw [if_pos c110] at H
 have c110n : (t85 != t99) = false := by rw [bne, c110]; rfl
 try simp only [c110, c110n, Bool.not_true, Bool.not_false]
 have cl0 := h118.cell (o := 0) rfl
 have cl1 := h118.cell (o := 1) rfl
 refine wpList_step fun K_ h_ => ?_; go_simp; refine h_ _ _ ?_; clear h_ K_
 clear cl0 cl1
 have cl0 := hb108.cell (o := 0) rfl
 have cl1 := hb108.cell (o := 1) rfl
 refine wpList_step fun K_ h_ => ?_; go_simp; refine h_ _ _ ?_; clear h_ K_
 clear cl0 cl1
 refine wpList_step fun K_ h_ => ?_; go_simp; refine h_ _ _ ?_; clear h_ K_
 refine wpp fun K_ h_ => ?_; go_simp; refine h_ _ _ ?_; clear h_ K_
 refine wpList_nil ?_
 (try simp only [Exit.then, Exit.inBlock, ↓reduceIte, Nat.reduceEqDiff])
 refine hK109 _ _ ?_
 by_cases c119 : (t83 == t97 && t84 == t98) = true
 rotate_left
 ·
  rw [if_neg c119] at H; replace c119 := Bool.eq_false_iff.mpr c119
  have c119n : (!t83 == t97 || !t84 == t98) = true := by simp only [← Bool.not_and, c119, Bool.not_true, Bool.not_false]
  obtain rfl := Option.some.inj H
  try simp only [c119, c119n, Bool.not_true, Bool.not_false]
  refine wp_cond_true rfl ?_
  refine wp_seq_k (fun K491 hK491 => ?_)
  refine wp_region_lit ?_
  refine wpp fun K_ h_ => ?_; go_simp; refine h_ _ _ ?_; clear h_ K_
  refine wpList_nil ?_
  (try simp only [Exit.then, Exit.inBlock, ↓reduceIte, Nat.reduceEqDiff])
  refine hK491 _ _ ?_
  refine wp_ret ?_
  (try simp only [Exit.then, Exit.inBlock, ↓reduceIte, Nat.reduceEqDiff])
  refine hQf _ _ _ ?_
  exact bodyPost_ret (v := .bool false) (by first | rfl | (simp [results, Try.results5, go_sem]; done) | (simp [results, Try.results5, go_sem]; rfl)) rfl ⟨rfl, hm111.out⟩
 rw [if_pos c119] at H
 have c119n : (!t83 == t97 || !t84 == t98) = false := by simp only [← Bool.not_and, c119, Bool.not_true, Bool.not_false]
 replace H := Option.bind_eq_some_iff.mp H
 obtain ⟨⟨t121, t122⟩, A123, H⟩ := H
 replace A123 := Aside0.mk A123
 try dsimp only at H
 replace H := Option.bind_eq_some_iff.mp H
 obtain ⟨⟨t128, t129⟩, A130, H⟩ := H
 replace A130 := Aside0.mk A130
 try dsimp only at H
 try simp only [c119, c119n, Bool.not_true, Bool.not_false]
 refine wp_cond_false rfl ?_
 refine wp_skip ?_
 (try simp only [Exit.then, Exit.inBlock, ↓reduceIte, Nat.reduceEqDiff])
 refine hK95 _ _ ?_
 as_aux_lemma =>
 refine wp_seq_k (fun K120 hK120 => ?_)
 refine wp_region_lit ?_
 refine wpp fun K_ h_ => ?_; go_simp; refine h_ _ _ ?_; clear h_ K_
 refine wpp fun K_ h_ => ?_; go_simp; refine h_ _ _ ?_; clear h_ K_
 have cl0 := h113.cell (o := 0) rfl
 have cl1 := h113.cell (o := 1) rfl
 refine wpp fun K_ h_ => ?_; go_simp; refine h_ _ _ ?_; clear h_ K_
 clear cl0 cl1
 have cl0 := h114.cell (o := 0) rfl
 have cl1 := h114.cell (o := 1) rfl
 refine wpp fun K_ h_ => ?_; go_simp; refine h_ _ _ ?_; clear h_ K_
 clear cl0 cl1
 have cl0 := h115.cell (o := 0) rfl
 have cl1 := h115.cell (o := 1) rfl
 refine wpp fun K_ h_ => ?_; go_simp; refine h_ _ _ ?_; clear h_ K_
 clear cl0 cl1
 refine step_call (wanted_none rfl) (by go_simp <;> rfl) (impl_CircumquadranceOf.calls K t11 t12 t13 t14 t15 t16 t17 t18 t121 t122 w106  A123.out) ?_
 rintro e w124 ⟨rfl, hu⟩
 have hu125 := Aside0.mk hu
 clear hu
 refine ⟨_, rfl, ?_⟩
 simp only [Act.put, nm1, nm2, nm3, i64_w]
 refine wpp fun K_ h_ => ?_; go_simp; refine h_ _ _ ?_; clear h_ K_
 refine wpp fun K_ h_ => ?_; go_simp; refine h_ _ _ ?_; clear h_ K_
 refine wpp fun K_ h_ => ?_; go_simp; refine h_ _ _ ?_; clear h_ K_
 refine wpp fun K_ h_ => ?_; go_simp; refine h_ _ _ ?_; clear h_ K_
 refine wpp fun K_ h_ => ?_; go_simp; refine h_ _ _ ?_; clear h_ K_
 refine wpList_nil ?_
 (try simp only [Exit.then, Exit.inBlock, ↓reduceIte, Nat.reduceEqDiff])
 refine hK120 _ _ ?_
 refine wp_seq_k (fun K126 hK126 => ?_)
 refine wp_seq_k (fun K127 hK127 => ?_)
 refine wp_region_lit ?_
 refine wpp fun K_ h_ => ?_; go_simp; refine h_ _ _ ?_; clear h_ K_
 refine wpp fun K_ h_ => ?_; go_simp; refine h_ _ _ ?_; clear h_ K_
 have cl0 := (h113.up hu125.out).cell (o := 0) rfl
 have cl1 := (h113.up hu125.out).cell (o := 1) rfl
 refine wpp fun K_ h_ => ?_; go_simp; refine h_ _ _ ?_; clear h_ K_
 clear cl0 cl1
 have cl0 := (h114.up hu125.out).cell (o := 0) rfl
 have cl1 := (h114.up hu125.out).cell (o := 1) rfl
 refine wpp fun K_ h_ => ?_; go_simp; refine h_ _ _ ?_; clear h_ K_
 clear cl0 cl1
 have cl0 := (h115.up hu125.out).cell (o := 0) rfl
 have cl1 := (h115.up hu125.out).cell (o := 1) rfl
 refine wpp fun K_ h_ => ?_; go_simp; refine h_ _ _ ?_; clear h_ K_
 clear cl0 cl1
 refine step_call (wanted_none rfl) (by go_simp <;> rfl) (spec_CircumquadranceOf.calls K t11 t12 t13 t14 t15 t16 t17 t18 t128 t129 w124  A130.out) ?_
 rintro e w131 ⟨rfl, hu⟩
 have hu132 := Aside0.mk hu
 clear hu
 refine ⟨_, rfl, ?_⟩
 simp only [Act.put, nm1, nm2, nm3, i64_w]
 refine wpp fun K_ h_ => ?_; go_simp; refine h_ _ _ ?_; clear h_ K_
 refine wpp fun K_ h_ => ?_; go_simp; refine h_ _ _ ?_; clear h_ K_
 refine wpp fun K_ h_ => ?_; go_simp; refine h_ _ _ ?_; clear h_ K_
 refine wpp fun K_ h_ => ?_; go_simp; refine h_ _ _ ?_; clear h_ K_
 refine wpp fun K_ h_ => ?_; go_simp; refine h_ _ _ ?_; clear h_ K_
 refine wpList_nil ?_
 (try simp only [Exit.then, Exit.inBlock, ↓reduceIte, Nat.reduceEqDiff])
 refine hK127 _ _ ?_
 refine wp_seq_k (fun K133 hK133 => ?_)
 refine wp_region_lit ?_
 refine wpp fun K_ h_ => ?_; go_simp; refine h_ _ _ ?_; clear h_ K_
 refine wpp fun K_ h_ => ?_; go_simp; refine h_ _ _ ?_; clear h_ K_
 refine wpp fun K_ h_ => ?_; go_simp; refine h_ _ _ ?_; clear h_ K_
 refine wpp fun K_ h_ => ?_; go_simp; refine h_ _ _ ?_; clear h_ K_
 by_cases c134 : (t122 == t129) = true
 rotate_left
 ·
  rw [if_neg c134] at H; replace c134 := Bool.eq_false_iff.mpr c134
  have c134n : (t122 != t129) = true := by rw [bne, c134]; rfl
  have c134p : ¬ t122 = t129 := fun e => by simp [e] at c134
  obtain rfl := Option.some.inj H
  try simp only [c134, c134n, Bool.not_true, Bool.not_false]
  refine step_no rfl ?_
  simp only [Act.put, nm1, nm2, nm3, i64_w]
  refine step_no rfl ?_
  simp only [Act.put, nm1, nm2, nm3, i64_w]
  refine step_no rfl ?_
  simp only [Act.put, nm1, nm2, nm3, i64_w]
  refine wpp fun K_ h_ => ?_; go_simp; refine h_ _ _ ?_; clear h_ K_
  refine wpList_nil ?_
  (try simp only [Exit.then, Exit.inBlock, ↓reduceIte, Nat.reduceEqDiff])
  refine hK133 _ _ ?_
  as_aux_lemma =>
  refine wp_cond_true rfl ?_
  refine wp_seq_k (fun K490 hK490 => ?_)
  refine wp_region_lit ?_
  refine wpp fun K_ h_ => ?_; go_simp; refine h_ _ _ ?_; clear h_ K_
  refine wpList_nil ?_
  (try simp only [Exit.then, Exit.inBlock, ↓reduceIte, Nat.reduceEqDiff])
  refine hK490 _ _ ?_
  refine wp_ret ?_
  (try simp only [Exit.then, Exit.inBlock, ↓reduceIte, Nat.reduceEqDiff])
  refine hQf _ _ _ ?_
  exact bodyPost_ret (v := .bool false) (by first | rfl | (simp [results, Try.results5, go_sem]; done) | (simp [results, Try.results5, go_sem]; rfl)) rfl ⟨rfl, ((hm111.out.trans hu125.out).trans hu132.out)⟩
 rw [if_pos c134] at H
 have c134n : (t122 != t129) = false := by rw [bne, c134]; rfl
 try simp only [c134, c134n, Bool.not_true, Bool.not_false]
 refine wpList_step fun K_ h_ => ?_; go_simp; refine h_ _ _ ?_; clear h_ K_
 refine wpList_step fun K_ h_ => ?_; go_simp; refine h_ _ _ ?_; clear h_ K_
 refine wpList_step fun K_ h_ => ?_; go_simp; refine h_ _ _ ?_; clear h_ K_
 refine wpp fun K_ h_ => ?_; go_simp; refine h_ _ _ ?_; clear h_ K_
 refine wpList_nil ?_
 (try simp only [Exit.then, Exit.inBlock, ↓reduceIte, Nat.reduceEqDiff])
 refine hK133 _ _ ?_
 by_cases c135 : (t121 == t128) = true
 rotate_left
 ·
  rw [if_neg c135] at H; replace c135 := Bool.eq_false_iff.mpr c135
  have c135n : (t121 != t128) = true := by rw [bne, c135]; rfl
  have c135p : ¬ t121 = t128 := fun e => by simp [e] at c135
  obtain rfl := Option.some.inj H
  try simp only [c135, c135n, Bool.not_true, Bool.not_false]
  refine wp_cond_true rfl ?_
  refine wp_seq_k (fun K489 hK489 => ?_)
  refine wp_region_lit ?_
  refine wpp fun K_ h_ => ?_; go_simp; refine h_ _ _ ?_; clear h_ K_
  refine wpList_nil ?_
  (try simp only [Exit.then, Exit.inBlock, ↓reduceIte, Nat.reduceEqDiff])
  refine hK489 _ _ ?_
  refine wp_ret ?_
  (try simp only [Exit.then, Exit.inBlock, ↓reduceIte, Nat.reduceEqDiff])
  refine hQf _ _ _ ?_
  exact bodyPost_ret (v := .bool false) (by first | rfl | (simp [results, Try.results5, go_sem]; done) | (simp [results, Try.results5, go_sem]; rfl)) rfl ⟨rfl, ((hm111.out.trans hu125.out).trans hu132.out)⟩
 rw [if_pos c135] at H
 have c135n : (t121 != t128) = false := by rw [bne, c135]; rfl
 replace H := Option.bind_eq_some_iff.mp H
 obtain ⟨⟨t137, t138, t139, t140⟩, A141, H⟩ := H
 replace A141 := Aside0.mk A141
 try dsimp only at H
 replace H := Option.bind_eq_some_iff.mp H
 obtain ⟨⟨t152, t153, t154, t155⟩, A156, H⟩ := H
 replace A156 := Aside0.mk A156
 try dsimp only at H
 try simp only [c135, c135n, Bool.not_true, Bool.not_false]
 refine wp_cond_false rfl ?_
 refine wp_skip ?_
 (try simp only [Exit.then, Exit.inBlock, ↓reduceIte, Nat.reduceEqDiff])
 refine hK126 _ _ ?_
 refine wp_seq_k (fun K136 hK136 => ?_)
 refine wp_region_lit ?_
 refine wpp fun K_ h_ => ?_; go_simp; refine h_ _ _ ?_; clear h_ K_
 refine wpp fun K_ h_ => ?_; go_simp; refine h_ _ _ ?_; clear h_ K_
 have cl0 := (h113.up (hu125.out.trans hu132.out)).cell (o := 0) rfl
 have cl1 := (h113.up (hu125.out.trans hu132.out)).cell (o := 1) rfl
 refine wpp fun K_ h_ => ?_; go_simp; refine h_ _ _ ?_; clear h_ K_
 clear cl0 cl1
 have cl0 := (h114.up (hu125.out.trans hu132.out)).cell (o := 0) rfl
 have cl1 := (h114.up (hu125.out.trans hu132.out)).cell (o := 1) rfl
 refine wpp fun K_ h_ => ?_; go_simp; refine h_ _ _ ?_; clear h_ K_
 clear cl0 cl1
 have cl0 := (h115.up (hu125.out.trans hu132.out)).cell (o := 0) rfl
 have cl1 := (h115.up (hu125.out.trans hu132.out)).cell (o := 1) rfl
 refine wpp fun K_ h_ => ?_; go_simp; refine h_ _ _ ?_; clear h_ K_
 clear cl0 cl1
 refine step_call (wanted_none rfl) (by go_simp <;> rfl) (impl_AltitudeOf.calls K t11 t12 t13 t14 t15 t16 t17 t18 t137 t138 t139 t140 w131  A141.out) ?_
 rintro e w142 ⟨rfl, hu⟩
 have hu143 := Aside0.mk hu
 clear hu
 refine ⟨_, rfl, ?_⟩
 simp only [Act.put, nm1, nm2, nm3, i64_w]
 refine wpp fun K_ h_ => ?_; go_simp; refine h_ _ _ ?_; clear h_ K_
 refine wpp fun K_ h_ => ?_; go_simp; refine h_ _ _ ?_; clear h_ K_
 refine wpp fun K_ h_ => ?_; go_simp; refine h_ _ _ ?_; clear h_ K_
 refine step_new (cs := [.int .i64 0, .int .i64 0, .int .i64 0]) (T := 34) (f := fun b => .pointer (some ⟨b, 0, none⟩)) rfl (by go_simp <;> rfl) ?_
 intro b144 w145 hu lb hb144
 simp only [Act.put, nm1, nm2, nm3, i64_w]
 have lbb144 := Aside0.mk lb
 have ltb144 := Aside0.mk hb144.lt
 clear lb
 have hu146 := Aside0.mk hu
 clear hu
 have hB0 := hb144
 have cl0 := hB0.cell (o := 0) rfl
 have fr0 := hB0.free 0
 have cl1 := hB0.cell (o := 1) rfl
 have fr1 := hB0.free 1
 have cl2 := hB0.cell (o := 2) rfl
 have fr2 := hB0.free 2
 refine step_store (b := b144) (cs' := [.int .i64 t137, .int .i64 t138, .int .i64 t139]) (T := 34) (W' := (((w145.setCell ⟨b144, 0, none⟩ (.int .i64 t137)).setCell ⟨b144, 1, none⟩ (.int .i64 t138)).setCell ⟨b144, 2, none⟩ (.int .i64 t139))) rfl rfl (by go_simp <;> rfl) ((((Sto.refl _ _).setCell 0 _).setCell 1 _).setCell 2 _) ((((hB0).setCell 0 _).setCell 1 _).setCell 2 _) ?_
 clear hB0 cl0 fr0 cl1 fr1 cl2 fr2
 intro w147 hs hb149
 have hs148 := Aside0.mk hs
 clear hs
 refine wpp fun K_ h_ => ?_; go_simp; refine h_ _ _ ?_; clear h_ K_
 refine wpList_nil ?_
 (try simp only [Exit.then, Exit.inBlock, ↓reduceIte, Nat.reduceEqDiff])
 refine hK136 _ _ ?_
 as_aux_lemma =>
 refine wp_seq_k (fun K150 hK150 => ?_)
 refine wp_seq_k (fun K151 hK151 => ?_)
 refine wp_region_lit ?_
 refine wpp fun K_ h_ => ?_; go_simp; refine h_ _ _ ?_; clear h_ K_
 refine wpp fun K_ h_ => ?_; go_simp; refine h_ _ _ ?_; clear h_ K_
 have cl0 := (h113.up ((((hu125.out.trans hu132.out).trans hu143.out).trans hu146.out).sto (Nat.le_trans ((Nat.le_trans ((Nat.le_trans (hu125.out.size) hu132.out.size)) hu143.out.size)) lbb144.out) hs148.out)).cell (o := 0) rfl
 have cl1 := (h113.up ((((hu125.out.trans hu132.out).trans hu143.out).trans hu146.out).sto (Nat.le_trans ((Nat.le_trans ((Nat.le_trans (hu125.out.size) hu132.out.size)) hu143.out.size)) lbb144.out) hs148.out)).cell (o := 1) rfl
 refine wpp fun K_ h_ => ?_; go_simp; refine h_ _ _ ?_; clear h_ K_
 clear cl0 cl1
 have cl0 := (h114.up ((((hu125.out.trans hu132.out).trans hu143.out).trans hu146.out).sto (Nat.le_trans ((Nat.le_trans ((Nat.le_trans (hu125.out.size) hu132.out.size)) hu143.out.size)) lbb144.out) hs148.out)).cell (o := 0) rfl
 have cl1 := (h114.up ((((hu125.out.trans hu132.out).trans hu143.out).trans hu146.out).sto (Nat.le_trans ((Nat.le_trans ((Nat.le_trans (hu125.out.size) hu132.out.size)) hu143.out.size)) lbb144.out) hs148.out)).cell (o := 1) rfl
 refine wpp fun K_ h_ => ?_; go_simp; refine h_ _ _ ?_; clear h_ K_
 clear cl0 cl1
 have cl0 := (h115.up ((((hu125.out.trans hu132.out).trans hu143.out).trans hu146.out).sto (Nat.le_trans ((Nat.le_trans ((Nat.le_trans (hu125.out.size) hu132.out.size)) hu143.out.size)) lbb144.out) hs148.out)).cell (o := 0) rfl
 have cl1 := (h115.up ((((hu125.out.trans hu132.out).trans hu143.out).trans hu146.out).sto (Nat.le_trans ((Nat.le_trans ((Nat.le_trans (hu125.out.size) hu132.out.size)) hu143.out.size)) lbb144.out) hs148.out)).cell (o := 1) rfl
 refine wpp fun K_ h_ => ?_; go_simp; refine h_ _ _ ?_; clear h_ K_
 clear cl0 cl1
 refine step_call (wanted_none rfl) (by go_simp <;> rfl) (spec_AltitudeOf.calls K t11 t12 t13 t14 t15 t16 t17 t18 t152 t153 t154 t155 w147  A156.out) ?_
 rintro e w157 ⟨rfl, hu⟩
 have hu158 := Aside0.mk hu
 clear hu
 refine ⟨_, rfl, ?_⟩
 simp only [Act.put, nm1, nm2, nm3, i64_w]
 refine wpp fun K_ h_ => ?_; go_simp; refine h_ _ _ ?_; clear h_ K_
 refine wpp fun K_ h_ => ?_; go_simp; refine h_ _ _ ?_; clear h_ K_
 refine wpp fun K_ h_ => ?_; go_simp; refine h_ _ _ ?_; clear h_ K_
 refine step_new (cs := [.int .i64 0, .int .i64 0, .int .i64 0]) (T := 34) (f := fun b => .pointer (some ⟨b, 0, none⟩)) rfl (by go_simp <;> rfl) ?_
 intro b159 w160 hu lb hb159
 simp only [Act.put, nm1, nm2, nm3, i64_w]
 have lbb159 := Aside0.mk lb
 have ltb159 := Aside0.mk hb159.lt
 clear lb
 have hu161 := Aside0.mk hu
 clear hu
 have hB0 := hb159
 have cl0 := hB0.cell (o := 0) rfl
 have fr0 := hB0.free 0
 have cl1 := hB0.cell (o := 1) rfl
 have fr1 := hB0.free 1
 have cl2 := hB0.cell (o := 2) rfl
 have fr2 := hB0.free 2
 refine step_store (b := b159) (cs' := [.int .i64 t152, .int .i64 t153, .int .i64 t154]) (T := 34) (W' := (((w160.setCell ⟨b159, 0, none⟩ (.int .i64 t152)).setCell ⟨b159, 1, none⟩ (.int .i64 t153)).setCell ⟨b159, 2, none⟩ (.int .i64 t154))) rfl rfl (by go_simp <;> rfl) ((((Sto.refl _ _).setCell 0 _).setCell 1 _).setCell 2 _) ((((hB0).setCell 0 _).setCell 1 _).setCell 2 _) ?_
 clear hB0 cl0 fr0 cl1 fr1 cl2 fr2
 intro w162 hs hb164
 have hs163 := Aside0.mk hs
 clear hs
 refine wpp fun K_ h_ => ?_; go_simp; refine h_ _ _ ?_; clear h_ K_
 refine wpList_nil ?_
 (try simp only [Exit.then, Exit.inBlock, ↓reduceIte, Nat.reduceEqDiff])
 refine hK151 _ _ ?_
 refine wp_seq_k (fun K165 hK165 => ?_)
 refine wp_region_lit ?_
 refine wpp fun K_ h_ => ?_; go_simp; refine h_ _ _ ?_; clear h_ K_
 refine wpp fun K_ h_ => ?_; go_simp; refine h_ _ _ ?_; clear h_ K_
 refine wpp fun K_ h_ => ?_; go_simp; refine h_ _ _ ?_; clear h_ K_
 refine wpp fun K_ h_ => ?_; go_simp; refine h_ _ _ ?_; clear h_ K_
 have hm167 := Aside0.mk ((((((((hm111.out.trans hu125.out).trans hu132.out).trans hu143.out).trans hu146.out).sto (Nat.le_trans ((Nat.le_trans ((Nat.le_trans ((Nat.le_trans (hm112.out) hu125.out.size)) hu132.out.size)) hu143.out.size)) lbb144.out) hs148.out).trans hu158.out).trans hu161.out).sto (Nat.le_trans ((Nat.le_trans ((Nat.le_trans ((Nat.le_trans ((Nat.le_trans ((Nat.le_trans ((Nat.le_trans (hm112.out) hu125.out.size)) hu132.out.size)) hu143.out.size)) hu146.out.size)) (Nat.le_of_eq hs148.out.size.symm))) hu158.out.size)) lbb159.out) hs163.out)
 have hm168 := Aside0.mk (Nat.le_trans ((Nat.le_trans ((Nat.le_trans ((Nat.le_trans ((Nat.le_trans ((Nat.le_trans ((Nat.le_trans ((Nat.le_trans (hm112.out) hu125.out.size)) hu132.out.size)) hu143.out.size)) hu146.out.size)) (Nat.le_of_eq hs148.out.size.symm))) hu158.out.size)) hu161.out.size)) (Nat.le_of_eq hs163.out.size.symm))
 have h169 := (h113.up (((((((hu125.out.trans hu132.out).trans hu143.out).trans hu146.out).sto (Nat.le_trans ((Nat.le_trans ((Nat.le_trans (hu125.out.size) hu132.out.size)) hu143.out.size)) lbb144.out) hs148.out).trans hu158.out).trans hu161.out).sto (Nat.le_trans ((Nat.le_trans ((Nat.le_trans ((Nat.le_trans ((Nat.le_trans ((Nat.le_trans (hu125.out.size) hu132.out.size)) hu143.out.size)) hu146.out.size)) (Nat.le_of_eq hs148.out.size.symm))) hu158.out.size)) lbb159.out) hs163.out))
 have h170 := (h114.up (((((((hu125.out.trans hu132.out).trans hu143.out).trans hu146.out).sto (Nat.le_trans ((Nat.le_trans ((Nat.le_trans (hu125.out.size) hu132.out.size)) hu143.out.size)) lbb144.out) hs148.out).trans hu158.out).trans hu161.out).sto (Nat.le_trans ((Nat.le_trans ((Nat.le_trans ((Nat.le_trans ((Nat.le_trans ((Nat.le_trans (hu125.out.size) hu132.out.size)) hu143.out.size)) hu146.out.size)) (Nat.le_of_eq hs148.out.size.symm))) hu158.out.size)) lbb159.out) hs163.out))
 have h171 := (h115.up (((((((hu125.out.trans hu132.out).trans hu143.out).trans hu146.out).sto (Nat.le_trans ((Nat.le_trans ((Nat.le_trans (hu125.out.size) hu132.out.size)) hu143.out.size)) lbb144.out) hs148.out).trans hu158.out).trans hu161.out).sto (Nat.le_trans ((Nat.le_trans ((Nat.le_trans ((Nat.le_trans ((Nat.le_trans ((Nat.le_trans (hu125.out.size) hu132.out.size)) hu143.out.size)) hu146.out.size)) (Nat.le_of_eq hs148.out.size.symm))) hu158.out.size)) lbb159.out) hs163.out))
 have h172 := (h116.up (((((((hu125.out.trans hu132.out).trans hu143.out).trans hu146.out).sto (Nat.le_trans ((Nat.le_trans ((Nat.le_trans (hu125.out.size) hu132.out.size)) hu143.out.size)) lbb144.out) hs148.out).trans hu158.out).trans hu161.out).sto (Nat.le_trans ((Nat.le_trans ((Nat.le_trans ((Nat.le_trans ((Nat.le_trans ((Nat.le_trans (hu125.out.size) hu132.out.size)) hu143.out.size)) hu146.out.size)) (Nat.le_of_eq hs148.out.size.symm))) hu158.out.size)) lbb159.out) hs163.out))
 have h173 := (h117.up (((((((hu125.out.trans hu132.out).trans hu143.out).trans hu146.out).sto (Nat.le_trans ((Nat.le_trans ((Nat.le_trans (hu125.out.size) hu132.out.size)) hu143.out.size)) lbb144.out) hs148.out).trans hu158.out).trans hu161.out).sto (Nat.le_trans ((Nat.le_trans ((Nat.le_trans ((Nat.le_trans ((Nat.le_trans ((Nat.le_trans (hu125.out.size) hu132.out.size)) hu143.out.size)) hu146.out.size)) (Nat.le_of_eq hs148.out.size.symm))) hu158.out.size)) lbb159.out) hs163.out))
 have h174 := (h118.up (((((((hu125.out.trans hu132.out).trans hu143.out).trans hu146.out).sto (Nat.le_trans ((Nat.le_trans ((Nat.le_trans (hu125.out.size) hu132.out.size)) hu143.out.size)) lbb144.out) hs148.out).trans hu158.out).trans hu161.out).sto (Nat.le_trans ((Nat.le_trans ((Nat.le_trans ((Nat.le_trans ((Nat.le_trans ((Nat.le_trans (hu125.out.size) hu132.out.size)) hu143.out.size)) hu146.out.size)) (Nat.le_of_eq hs148.out.size.symm))) hu158.out.size)) lbb159.out) hs163.out))
 have h175 := (hb108.up (((((((hu125.out.trans hu132.out).trans hu143.out).trans hu146.out).sto (Nat.le_trans ((Nat.le_trans ((Nat.le_trans (hu125.out.size) hu132.out.size)) hu143.out.size)) lbb144.out) hs148.out).trans hu158.out).trans hu161.out).sto (Nat.le_trans ((Nat.le_trans ((Nat.le_trans ((Nat.le_trans ((Nat.le_trans ((Nat.le_trans (hu125.out.size) hu132.out.size)) hu143.out.size)) hu146.out.size)) (Nat.le_of_eq hs148.out.size.symm))) hu158.out.size)) lbb159.out) hs163.out))
 have h176 := (hb149.up ((hu158.out.trans hu161.out).sto (Nat.le_trans (hu158.out.size) lbb159.out) hs163.out))
 by_cases c166 : (t140 == t155) = true
 rotate_left
 ·
  rw [if_neg c166] at H; replace c166 := Bool.eq_false_iff.mpr c166
  have c166n : (t140 != t155) = true := by rw [bne, c166]; rfl
  have c166p : ¬ t140 = t155 := fun e => by simp [e] at c166
  obtain rfl := Option.some.inj H
  try simp only [c166, c166n, Bool.not_true, Bool.not_false]
  refine step_no rfl ?_
  simp only [Act.put, nm1, nm2, nm3, i64_w]
  refine step_no rfl ?_
  simp only [Act.put, nm1, nm2, nm3, i64_w]
  refine step_no rfl ?_
  simp only [Act.put, nm1, nm2, nm3, i64_w]
  refine wpp fun K_ h_ => ?_; go_simp; refine h_ _ _ ?_; clear h_ K_
  refine wpList_nil ?_
  (try simp only [Exit.then, Exit.inBlock, ↓reduceIte, Nat.reduceEqDiff])
  refine hK165 _ _ ?_
  as_aux_lemma =>
  refine wp_cond_true rfl ?_
  refine wp_seq_k (fun K488 hK488 => ?_)
  refine wp_region_lit ?_
  refine wpp fun K_ h_ => ?_; go_simp; refine h_ _ _ ?_; clear h_ K_
  refine wpList_nil ?_
  (try simp only [Exit.then, Exit.inBlock, ↓reduceIte, Nat.reduceEqDiff])
  refine hK488 _ _ ?_
  refine wp_ret ?_
  (try simp only [Exit.then, Exit.inBlock, ↓reduceIte, Nat.reduceEqDiff])
  refine hQf _ _ _ ?_
  exact bodyPost_ret (v := .bool false) (by first | rfl | (simp [results, Try.results5, go_sem]; done) | (simp [results, Try.results5, go_sem]; rfl)) rfl ⟨rfl, hm167.out⟩
 rw [if_pos c166] at H
 have c166n : (t140 != t155) = false := by rw [bne, c166]; rfl
 try simp only [c166, c166n, Bool.not_true, Bool.not_false]
 have cl0 := h176.cell (o := 0) rfl
 have cl1 := h176.cell (o := 1) rfl
 have cl2 := h176.cell (o := 2) rfl
 refine wpList_step fun K_ h_ => ?_; go_simp; refine h_ _ _ ?_; clear h_ K_
 clear cl0 cl1 cl2
 have cl0 := hb164.cell (o := 0) rfl
 have cl1 := hb164.cell (o := 1) rfl
 have cl2 := hb164.cell (o := 2) rfl
 refine wpList_step fun K_ h_ => ?_; go_simp; refine h_ _ _ ?_; clear h_ K_
 clear cl0 cl1 cl2
 refine wpList_step fun K_ h_ => ?_; go_simp; refine h_ _ _ ?_; clear h_ K_
 refine wpp fun K_ h_ => ?_; go_simp; refine h_ _ _ ?_; clear h_ K_
 refine wpList_nil ?_
 (try simp only [Exit.then, Exit.inBlock, ↓reduceIte, Nat.reduceEqDiff])
 refine hK165 _ _ ?_
 by_cases c177 : (t137 == t152 && (t138 == t153 && t139 == t154)) = true
 rotate_left
 ·
  rw [if_neg c177] at H; replace c177 := Bool.eq_false_iff.mpr c177
  have c177n : (!t137 == t152 || (!t138 == t153 || !t139 == t154)) = true := by simp only [← Bool.not_and, c177, Bool.not_true, Bool.not_false]
  obtain rfl := Option.some.inj H
  try simp only [c177, c177n, Bool.not_true, Bool.not_false]
  refine wp_cond_true rfl ?_
  refine wp_seq_k (fun K487 hK487 => ?_)
  refine wp_region_lit ?_
  refine wpp fun K_ h_ => ?_; go_simp; refine h_ _ _ ?_; clear h_ K_
  refine wpList_nil ?_
  (try simp only [Exit.then, Exit.inBlock, ↓reduceIte, Nat.reduceEqDiff])
  refine hK487 _ _ ?_
  refine wp_ret ?_
  (try simp only [Exit.then, Exit.inBlock, ↓reduceIte, Nat.reduceEqDiff])
  refine hQf _ _ _ ?_
  exact bodyPost_ret (v := .bool false) (by first | rfl | (simp [results, Try.results5, go_sem]; done) | (simp [results, Try.results5, go_sem]; rfl)) rfl ⟨rfl, hm167.out⟩
 rw [if_pos c177] at H
 have c177n : (!t137 == t152 || (!t138 == t153 || !t139 == t154)) = false := by simp only [← Bool.not_and, c177, Bool.not_true, Bool.not_false]
 replace H := Option.bind_eq_some_iff.mp H
 obtain ⟨⟨t179, t180, t181, t182, t183, t184, t185⟩, A186, H⟩ := H
 replace A186 := Aside0.mk A186
 try dsimp only at H
 replace H := Option.bind_eq_some_iff.mp H
 obtain ⟨⟨t214, t215, t216⟩, A217, H⟩ := H
 replace A217 := Aside0.mk A217
 try dsimp only at H
 replace H := Option.bind_eq_some_iff.mp H
 obtain ⟨⟨t228, t229, t230⟩, A231, H⟩ := H
 replace A231 := Aside0.mk A231
 try dsimp only at H
 try simp only [c177, c177n, Bool.not_true, Bool.not_false]
 refine wp_cond_false rfl ?_
 refine wp_skip ?_
 (try simp only [Exit.then, Exit.inBlock, ↓reduceIte, Nat.reduceEqDiff])
 refine hK150 _ _ ?_
 refine wp_seq_k (fun K178 hK178 => ?_)
 refine wp_region_lit ?_
 refine wpp fun K_ h_ => ?_; go_simp; refine h_ _ _ ?_; clear h_ K_
 refine step_call (wanted_none rfl) (by go_simp <;> rfl) (spec_DrawCentroidOf.calls K a0_A a0_c a0 t179 t180 t181 t182 t183 t184 t185 w162 (ha0.up hm167.out) A186.out) ?_
 rintro e w187 ⟨rfl, hu⟩
 have hu188 := Aside0.mk hu
 clear hu
 refine ⟨_, rfl, ?_⟩
 simp only [Act.put, nm1, nm2, nm3, i64_w]
 refine wpp fun K_ h_ => ?_; go_simp; refine h_ _ _ ?_; clear h_ K_
 refine wpp fun K_ h_ => ?_; go_simp; refine h_ _ _ ?_; clear h_ K_
 refine wpp fun K_ h_ => ?_; go_simp; refine h_ _ _ ?_; clear h_ K_
 refine wpp fun K_ h_ => ?_; go_simp; refine h_ _ _ ?_; clear h_ K_
 refine wpp fun K_ h_ => ?_; go_simp; refine h_ _ _ ?_; clear h_ K_
 refine step_new (cs := [.int .i64 0, .int .i64 0]) (T := 30) (f := fun b => .pointer (some ⟨b, 0, none⟩)) rfl (by go_simp <;> rfl) ?_
 intro b189 w190 hu lb hb189
 simp only [Act.put, nm1, nm2, nm3, i64_w]
 have lbb189 := Aside0.mk lb
 have ltb189 := Aside0.mk hb189.lt
 clear lb
 have hu191 := Aside0.mk hu
 clear hu
 refine step_new (cs := [.int .i64 0, .int .i64 0]) (T := 30) (f := fun b => .pointer (some ⟨b, 0, none⟩)) rfl (by go_simp <;> rfl) ?_
 intro b192 w193 hu lb hb192
 simp only [Act.put, nm1, nm2, nm3, i64_w]
 have lbb192 := Aside0.mk lb
 have ltb192 := Aside0.mk hb192.lt
 clear lb
 have hu194 := Aside0.mk hu
 clear hu
 refine step_new (cs := [.int .i64 0, .int .i64 0]) (T := 30) (f := fun b => .pointer (some ⟨b, 0, none⟩)) rfl (by go_simp <;> rfl) ?_
 intro b195 w196 hu lb hb195
 simp only [Act.put, nm1, nm2, nm3, i64_w]
 have lbb195 := Aside0.mk lb
 have ltb195 := Aside0.mk hb195.lt
 clear lb
 have hu197 := Aside0.mk hu
 clear hu
 refine wpp fun K_ h_ => ?_; go_simp; refine h_ _ _ ?_; clear h_ K_
 have hB0 := (hb189.up (hu194.out.trans hu197.out))
 have cl0 := hB0.cell (o := 0) rfl
 have fr0 := hB0.free 0
 have cl1 := hB0.cell (o := 1) rfl
 have fr1 := hB0.free 1
 refine step_store (b := b189) (cs' := [.int .i64 t180, .int .i64 t181]) (T := 30) (W' := ((w196.setCell ⟨b189, 0, none⟩ (.int .i64 t180)).setCell ⟨b189, 1, none⟩ (.int .i64 t181))) rfl rfl (by go_simp <;> rfl) (((Sto.refl _ _).setCell 0 _).setCell 1 _) (((hB0).setCell 0 _).setCell 1 _) ?_
 clear hB0 cl0 fr0 cl1 fr1
 intro w198 hs hb200
 have hs199 := Aside0.mk hs
 clear hs
 have h201 := (hb192.up hu197.out).sto hs199.out (Ne.symm (Nat.ne_of_lt (Nat.lt_of_lt_of_le ltb189.out lbb192.out)))
 have h202 := hb195.sto hs199.out (Ne.symm (Nat.ne_of_lt (Nat.lt_of_lt_of_le (Nat.lt_of_lt_of_le ltb189.out (hu194.out.size)) lbb195.out)))
 have hB0 := h201
 have cl0 := hB0.cell (o := 0) rfl
 have fr0 := hB0.free 0
 have cl1 := hB0.cell (o := 1) rfl
 have fr1 := hB0.free 1
 refine step_store (b := b192) (cs' := [.int .i64 t182, .int .i64 t183]) (T := 30) (W' := ((w198.setCell ⟨b192, 0, none⟩ (.int .i64 t182)).setCell ⟨b192, 1, none⟩ (.int .i64 t183))) rfl rfl (by go_simp <;> rfl) (((Sto.refl _ _).setCell 0 _).setCell 1 _) (((hB0).setCell 0 _).setCell 1 _) ?_
 clear hB0 cl0 fr0 cl1 fr1
 intro w203 hs hb205
 have hs204 := Aside0.mk hs
 clear hs
 have h206 := hb200.sto hs204.out (Nat.ne_of_lt (Nat.lt_of_lt_of_le ltb189.out lbb192.out))
 have h207 := h202.sto hs204.out (Ne.symm (Nat.ne_of_lt (Nat.lt_of_lt_of_le ltb192.out lbb195.out)))
 have hB0 := h207
 have cl0 := hB0.cell (o := 0) rfl
 have fr0 := hB0.free 0
 have cl1 := hB0.cell (o := 1) rfl
 have fr1 := hB0.free 1
 refine step_store (b := b195) (cs' := [.int .i64 t184, .int .i64 t185]) (T := 30) (W' := ((w203.setCell ⟨b195, 0, none⟩ (.int .i64 t184)).setCell ⟨b195, 1, none⟩ (.int .i64 t185))) rfl rfl (by go_simp <;> rfl) (((Sto.refl _ _).setCell 0 _).setCell 1 _) (((hB0).setCell 0 _).setCell 1 _) ?_
 clear hB0 cl0 fr0 cl1 fr1
 intro w208 hs hb210
 have hs209 := Aside0.mk hs
 clear hs
 have h211 := h206.sto hs209.out (Nat.ne_of_lt (Nat.lt_of_lt_of_le (Nat.lt_of_lt_of_le ltb189.out (hu194.out.size)) lbb195.out))
 have h212 := hb205.sto hs209.out (Nat.ne_of_lt (Nat.lt_of_lt_of_le ltb192.out lbb195.out))
 refine wpList_nil ?_
 (try simp only [Exit.then, Exit.inBlock, ↓reduceIte, Nat.reduceEqDiff])
 refine hK178 _ _ ?_
 as_aux_lemma =>
 refine wp_seq_k (fun K213 hK213 => ?_)
 refine wp_region_lit ?_
 refine wpp fun K_ h_ => ?_; go_simp; refine h_ _ _ ?_; clear h_ K_
 have cl0 := h211.cell (o := 0) rfl
 have cl1 := h211.cell (o := 1) rfl
 refine wpp fun K_ h_ => ?_; go_simp; refine h_ _ _ ?_; clear h_ K_
 clear cl0 cl1
 have cl0 := h212.cell (o := 0) rfl
 have cl1 := h212.cell (o := 1) rfl
 refine wpp fun K_ h_ => ?_; go_simp; refine h_ _ _ ?_; clear h_ K_
 clear cl0 cl1
 have cl0 := hb210.cell (o := 0) rfl
 have cl1 := hb210.cell (o := 1) rfl
 refine wpp fun K_ h_ => ?_; go_simp; refine h_ _ _ ?_; clear h_ K_
 clear cl0 cl1
 refine step_call (wanted_none rfl) (by go_simp <;> rfl) (impl_CentroidOf.calls K t179 t180 t181 t182 t183 t184 t185 t214 t215 t216 w208  A217.out) ?_
 rintro e w218 ⟨rfl, hu⟩
 have hu219 := Aside0.mk hu
 clear hu
 refine ⟨_, rfl, ?_⟩
 simp only [Act.put, nm1, nm2, nm3, i64_w]
 refine wpp fun K_ h_ => ?_; go_simp; refine h_ _ _ ?_; clear h_ K_
 refine wpp fun K_ h_ => ?_; go_simp; refine h_ _ _ ?_; clear h_ K_
 refine wpp fun K_ h_ => ?_; go_simp; refine h_ _ _ ?_; clear h_ K_
 refine step_new (cs := [.int .i64 0, .int .i64 0]) (T := 30) (f := fun b => .pointer (some ⟨b, 0, none⟩)) rfl (by go_simp <;> rfl) ?_
 intro b220 w221 hu lb hb220
 simp only [Act.put, nm1, nm2, nm3, i64_w]
 have lbb220 := Aside0.mk lb
 have ltb220 := Aside0.mk hb220.lt
 clear lb
 have hu222 := Aside0.mk hu
 clear hu
 have hB0 := hb220
 have cl0 := hB0.cell (o := 0) rfl
 have fr0 := hB0.free 0
 have cl1 := hB0.cell (o := 1) rfl
 have fr1 := hB0.free 1
 refine step_store (b := b220) (cs' := [.int .i64 t214, .int .i64 t215]) (T := 30) (W' := ((w221.setCell ⟨b220, 0, none⟩ (.int .i64 t214)).setCell ⟨b220, 1, none⟩ (.int .i64 t215))) rfl rfl (by go_simp <;> rfl) (((Sto.refl _ _).setCell 0 _).setCell 1 _) (((hB0).setCell 0 _).setCell 1 _) ?_
 clear hB0 cl0 fr0 cl1 fr1
 intro w223 hs hb225
 have hs224 := Aside0.mk hs
 clear hs
 refine wpp fun K_ h_ => ?_; go_simp; refine h_ _ _ ?_; clear h_ K_
 refine wpList_nil ?_
 (try simp only [Exit.then, Exit.inBlock, ↓reduceIte, Nat.reduceEqDiff])
 refine hK213 _ _ ?_
 refine wp_seq_k (fun K226 hK226 => ?_)
 refine wp_seq_k (fun K227 hK227 => ?_)
 refine wp_region_lit ?_
 refine wpp fun K_ h_ => ?_; go_simp; refine h_ _ _ ?_; clear h_ K_
 have cl0 := (h211.up ((hu219.out.trans hu222.out).sto (Nat.le_trans (hu219.out.size) lbb220.out) hs224.out)).cell (o := 0) rfl
 have cl1 := (h211.up ((hu219.out.trans hu222.out).sto (Nat.le_trans (hu219.out.size) lbb220.out) hs224.out)).cell (o := 1) rfl
 refine wpp fun K_ h_ => ?_; go_simp; refine h_ _ _ ?_; clear h_ K_
 clear cl0 cl1
 have cl0 := (h212.up ((hu219.out.trans hu222.out).sto (Nat.le_trans (hu219.out.size) lbb220.out) hs224.out)).cell (o := 0) rfl
 have cl1 := (h212.up ((hu219.out.trans hu222.out).sto (Nat.le_trans (hu219.out.size) lbb220.out) hs224.out)).cell (o := 1) rfl
 refine wpp fun K_ h_ => ?_; go_simp; refine h_ _ _ ?_; clear h_ K_
 clear cl0 cl1
 have cl0 := (hb210.up ((hu219.out.trans hu222.out).sto (Nat.le_trans (hu219.out.size) lbb220.out) hs224.out)).cell (o := 0) rfl
 have cl1 := (hb210.up ((hu219.out.trans hu222.out).sto (Nat.le_trans (hu219.out.size) lbb220.out) hs224.out)).cell (o := 1) rfl
 refine wpp fun K_ h_ => ?_; go_simp; refine h_ _ _ ?_; clear h_ K_
 clear cl0 cl1
 refine step_call (wanted_none rfl) (by go_simp <;> rfl) (spec_CentroidOf.calls K t179 t180 t181 t182 t183 t184 t185 t228 t229 t230 w223  A231.out) ?_
 rintro e w232 ⟨rfl, hu⟩
 have hu233 := Aside0.mk hu
 clear hu
 refine ⟨_, rfl, ?_⟩
 simp only [Act.put, nm1, nm2, nm3, i64_w]
 refine wpp fun K_ h_ => ?_; go_simp; refine h_ _ _ ?_; clear h_ K_
 refine wpp fun K_ h_ => ?_; go_simp; refine h_ _ _ ?_; clear h_ K_
 refine wpp fun K_ h_ => ?_; go_simp; refine h_ _ _ ?_; clear h_ K_
 refine step_new (cs := [.int .i64 0, .int .i64 0]) (T := 30) (f := fun b => .pointer (some ⟨b, 0, none⟩)) rfl (by go_simp <;> rfl) ?_
 intro b234 w235 hu lb hb234
 simp only [Act.put, nm1, nm2, nm3, i64_w]
 have lbb234 := Aside0.mk lb
 have ltb234 := Aside0.mk hb234.lt
 clear lb
 have hu236 := Aside0.mk hu
 clear hu
 have hB0 := hb234
 have cl0 := hB0.cell (o := 0) rfl
 have fr0 := hB0.free 0
 have cl1 := hB0.cell (o := 1) rfl
 have fr1 := hB0.free 1
 refine step_store (b := b234) (cs' := [.int .i64 t228, .int .i64 t229]) (T := 30) (W' := ((w235.setCell ⟨b234, 0, none⟩ (.int .i64 t228)).setCell ⟨b234, 1, none⟩ (.int .i64 t229))) rfl rfl (by go_simp <;> rfl) (((Sto.refl _ _).setCell 0 _).setCell 1 _) (((hB0).setCell 0 _).setCell 1 _) ?_
 clear hB0 cl0 fr0 cl1 fr1
 intro w237 hs hb239
 have hs238 := Aside0.mk hs
 clear hs
 refine wpp fun K_ h_ => ?_; go_simp; refine h_ _ _ ?_; clear h_ K_
 refine wpList_nil ?_
 (try simp only [Exit.then, Exit.inBlock, ↓reduceIte, Nat.reduceEqDiff])
 refine hK227 _ _ ?_
 as_aux_lemma =>
 refine wp_seq_k (fun K240 hK240 => ?_)
 refine wp_region_lit ?_
 refine wpp fun K_ h_ => ?_; go_simp; refine h_ _ _ ?_; clear h_ K_
 refine wpp fun K_ h_ => ?_; go_simp; refine h_ _ _ ?_; clear h_ K_
 refine wpp fun K_ h_ => ?_; go_simp; refine h_ _ _ ?_; clear h_ K_
 refine wpp fun K_ h_ => ?_; go_simp; refine h_ _ _ ?_; clear h_ K_
 have hm242 := Aside0.mk (((((((((((((hm167.out.trans hu188.out).trans hu191.out).trans hu194.out).trans hu197.out).sto (Nat.le_trans ((Nat.le_trans (hm168.out) hu188.out.size)) lbb189.out) hs199.out).sto (Nat.le_trans ((Nat.le_trans ((Nat.le_trans (hm168.out) hu188.out.size)) hu191.out.size)) lbb192.out) hs204.out).sto (Nat.le_trans ((Nat.le_trans ((Nat.le_trans ((Nat.le_trans (hm168.out) hu188.out.size)) hu191.out.size)) hu194.out.size)) lbb195.out) hs209.out).trans hu219.out).trans hu222.out).sto (Nat.le_trans ((Nat.le_trans ((Nat.le_trans ((Nat.le_trans ((Nat.le_trans ((Nat.le_trans ((Nat.le_trans ((Nat.le_trans ((Nat.le_trans (hm168.out) hu188.out.size)) hu191.out.size)) hu194.out.size)) hu197.out.size)) (Nat.le_of_eq hs199.out.size.symm))) (Nat.le_of_eq hs204.out.size.symm))) (Nat.le_of_eq hs209.out.size.symm))) hu219.out.size)) lbb220.out) hs224.out).trans hu233.out).trans hu236.out).sto (Nat.le_trans ((Nat.le_trans ((Nat.le_trans ((Nat.le_trans ((Nat.le_trans ((Nat.le_trans ((Nat.le_trans ((Nat.le_trans ((Nat.le_trans ((Nat.le_trans ((Nat.le_trans ((Nat.le_trans (hm168.out) hu188.out.size)) hu191.out.size)) hu194.out.size)) hu197.out.size)) (Nat.le_of_eq hs199.out.size.symm))) (Nat.le_of_eq hs204.out.size.symm))) (Nat.le_of_eq hs209.out.size.symm))) hu219.out.size)) hu222.out.size)) (Nat.le_of_eq hs224.out.size.symm))) hu233.out.size)) lbb234.out) hs238.out)
 have hm243 := Aside0.mk (Nat.le_trans ((Nat.le_trans ((Nat.le_trans ((Nat.le_trans ((Nat.le_trans ((Nat.le_trans ((Nat.le_trans ((Nat.le_trans ((Nat.le_trans ((Nat.le_trans ((Nat.le_trans ((Nat.le_trans ((Nat.le_trans (hm168.out) hu188.out.size)) hu191.out.size)) hu194.out.size)) hu197.out.size)) (Nat.le_of_eq hs199.out.size.symm))) (Nat.le_of_eq hs204.out.size.symm))) (Nat.le_of_eq hs209.out.size.symm))) hu219.out.size)) hu222.out.size)) (Nat.le_of_eq hs224.out.size.symm))) hu233.out.size)) hu236.out.size)) (Nat.le_of_eq hs238.out.size.symm))
 have h244 := (h169.up ((((((((((((hu188.out.trans hu191.out).trans hu194.out).trans hu197.out).sto (Nat.le_trans (hu188.out.size) lbb189.out) hs199.out).sto (Nat.le_trans ((Nat.le_trans (hu188.out.size) hu191.out.size)) lbb192.out) hs204.out).sto (Nat.le_trans ((Nat.le_trans ((Nat.le_trans (hu188.out.size) hu191.out.size)) hu194.out.size)) lbb195.out) hs209.out).trans hu219.out).trans hu222.out).sto (Nat.le_trans ((Nat.le_trans ((Nat.le_trans ((Nat.le_trans ((Nat.le_trans ((Nat.le_trans ((Nat.le_trans ((Nat.le_trans (hu188.out.size) hu191.out.size)) hu194.out.size)) hu197.out.size)) (Nat.le_of_eq hs199.out.size.symm))) (Nat.le_of_eq hs204.out.size.symm))) (Nat.le_of_eq hs209.out.size.symm))) hu219.out.size)) lbb220.out) hs224.out).trans hu233.out).trans hu236.out).sto (Nat.le_trans ((Nat.le_trans ((Nat.le_trans ((Nat.le_trans ((Nat.le_trans ((Nat.le_trans ((Nat.le_trans ((Nat.le_trans ((Nat.le_trans ((Nat.le_trans ((Nat.le_trans (hu188.out.size) hu191.out.size)) hu194.out.size)) hu197.out.size)) (Nat.le_of_eq hs199.out.size.symm))) (Nat.le_of_eq hs204.out.size.symm))) (Nat.le_of_eq hs209.out.size.symm))) hu219.out.size)) hu222.out.size)) (Nat.le_of_eq hs224.out.size.symm))) hu233.out.size)) lbb234.out) hs238.out))
 have h245 := (h170.up ((((((((((((hu188.out.trans hu191.out).trans hu194.out).trans hu197.out).sto (Nat.le_trans (hu188.out.size) lbb189.out) hs199.out).sto (Nat.le_trans ((Nat.le_trans (hu188.out.size) hu191.out.size)) lbb192.out) hs204.out).sto (Nat.le_trans ((Nat.le_trans ((Nat.le_trans (hu188.out.size) hu191.out.size)) hu194.out.size)) lbb195.out) hs209.out).trans hu219.out).trans hu222.out).sto (Nat.le_trans ((Nat.le_trans ((Nat.le_trans ((Nat.le_trans ((Nat.le_trans ((Nat.le_trans ((Nat.le_trans ((Nat.le_trans (hu188.out.size) hu191.out.size)) hu194.out.size)) hu197.out.size)) (Nat.le_of_eq hs199.out.size.symm))) (Nat.le_of_eq hs204.out.size.symm))) (Nat.le_of_eq hs209.out.size.symm))) hu219.out.size)) lbb220.out) hs224.out).trans hu233.out).trans hu236.out).sto (Nat.le_trans ((Nat.le_trans ((Nat.le_trans ((Nat.le_trans ((Nat.le_trans ((Nat.le_trans ((Nat.le_trans ((Nat.le_trans ((Nat.le_trans ((Nat.le_trans ((Nat.le_trans (hu188.out.size) hu191.out.size)) hu194.out.size)) hu197.out.size)) (Nat.le_of_eq hs199.out.size.symm))) (Nat.le_of_eq hs204.out.size.symm))) (Nat.le_of_eq hs209.out.size.symm))) hu219.out.size)) hu222.out.size)) (Nat.le_of_eq hs224.out.size.symm))) hu233.out.size)) lbb234.out) hs238.out))
 have h246 := (h171.up ((((((((((((hu188.out.trans hu191.out).trans hu194.out).trans hu197.out).sto (Nat.le_trans (hu188.out.size) lbb189.out) hs199.out).sto (Nat.le_trans ((Nat.le_trans (hu188.out.size) hu191.out.size)) lbb192.out) hs204.out).sto (Nat.le_trans ((Nat.le_trans ((Nat.le_trans (hu188.out.size) hu191.out.size)) hu194.out.size)) lbb195.out) hs209.out).trans hu219.out).trans hu222.out).sto (Nat.le_trans ((Nat.le_trans ((Nat.le_trans ((Nat.le_trans ((Nat.le_trans ((Nat.le_trans ((Nat.le_trans ((Nat.le_trans (hu188.out.size) hu191.out.size)) hu194.out.size)) hu197.out.size)) (Nat.le_of_eq hs199.out.size.symm))) (Nat.le_of_eq hs204.out.size.symm))) (Nat.le_of_eq hs209.out.size.symm))) hu219.out.size)) lbb220.out) hs224.out).trans hu233.out).trans hu236.out).sto (Nat.le_trans ((Nat.le_trans ((Nat.le_trans ((Nat.le_trans ((Nat.le_trans ((Nat.le_trans ((Nat.le_trans ((Nat.le_trans ((Nat.le_trans ((Nat.le_trans ((Nat.le_trans (hu188.out.size) hu191.out.size)) hu194.out.size)) hu197.out.size)) (Nat.le_of_eq hs199.out.size.symm))) (Nat.le_of_eq hs204.out.size.symm))) (Nat.le_of_eq hs209.out.size.symm))) hu219.out.size)) hu222.out.size)) (Nat.le_of_eq hs224.out.size.symm))) hu233.out.size)) lbb234.out) hs238.out))
 have h247 := (h172.up ((((((((((((hu188.out.trans hu191.out).trans hu194.out).trans hu197.out).sto (Nat.le_trans (hu188.out.size) lbb189.out) hs199.out).sto (Nat.le_trans ((Nat.le_trans (hu188.out.size) hu191.out.size)) lbb192.out) hs204.out).sto (Nat.le_trans ((Nat.le_trans ((Nat.le_trans (hu188.out.size) hu191.out.size)) hu194.out.size)) lbb195.out) hs209.out).trans hu219.out).trans hu222.out).sto (Nat.le_trans ((Nat.le_trans ((Nat.le_trans ((Nat.le_trans ((Nat.le_trans ((Nat.le_trans ((Nat.le_trans ((Nat.le_trans (hu188.out.size) hu191.out.size)) hu194.out.size)) hu197.out.size)) (Nat.le_of_eq hs199.out.size.symm))) (Nat.le_of_eq hs204.out.size.symm))) (Nat.le_of_eq hs209.out.size.symm))) hu219.out.size)) lbb220.out) hs224.out).trans hu233.out).trans hu236.out).sto (Nat.le_trans ((Nat.le_trans ((Nat.le_trans ((Nat.le_trans ((Nat.le_trans ((Nat.le_trans ((Nat.le_trans ((Nat.le_trans ((Nat.le_trans ((Nat.le_trans ((Nat.le_trans (hu188.out.size) hu191.out.size)) hu194.out.size)) hu197.out.size)) (Nat.le_of_eq hs199.out.size.symm))) (Nat.le_of_eq hs204.out.size.symm))) (Nat.le_of_eq hs209.out.size.symm))) hu219.out.size)) hu222.out.size)) (Nat.le_of_eq hs224.out.size.symm))) hu233.out.size)) lbb234.out) hs238.out))
 have h248 := (h173.up ((((((((((((hu188.out.trans hu191.out).trans hu194.out).trans hu197.out).sto (Nat.le_trans (hu188.out.size) lbb189.out) hs199.out).sto (Nat.le_trans ((Nat.le_trans (hu188.out.size) hu191.out.size)) lbb192.out) hs204.out).sto (Nat.le_trans ((Nat.le_trans ((Nat.le_trans (hu188.out.size) hu191.out.size)) hu194.out.size)) lbb195.out) hs209.out).trans hu219.out).trans hu222.out).sto (Nat.le_trans ((Nat.le_trans ((Nat.le_trans ((Nat.le_trans ((Nat.le_trans ((Nat.le_trans ((Nat.le_trans ((Nat.le_trans (hu188.out.size) hu191.out.size)) hu194.out.size)) hu197.out.size)) (Nat.le_of_eq hs199.out.size.symm))) (Nat.le_of_eq hs204.out.size.symm))) (Nat.le_of_eq hs209.out.size.symm))) hu219.out.size)) lbb220.out) hs224.out).trans hu233.out).trans hu236.out).sto (Nat.le_trans ((Nat.le_trans ((Nat.le_trans ((Nat.le_trans ((Nat.le_trans ((Nat.le_trans ((Nat.le_trans ((Nat.le_trans ((Nat.le_trans ((Nat.le_trans ((Nat.le_trans (hu188.out.size) hu191.out.size)) hu194.out.size)) hu197.out.size)) (Nat.le_of_eq hs199.out.size.symm))) (Nat.le_of_eq hs204.out.size.symm))) (Nat.le_of_eq hs209.out.size.symm))) hu219.out.size)) hu222.out.size)) (Nat.le_of_eq hs224.out.size.symm))) hu233.out.size)) lbb234.out) hs238.out))
 have h249 := (h174.up ((((((((((((hu188.out.trans hu191.out).trans hu194.out).trans hu197.out).sto (Nat.le_trans (hu188.out.size) lbb189.out) hs199.out).sto (Nat.le_trans ((Nat.le_trans (hu188.out.size) hu191.out.size)) lbb192.out) hs204.out).sto (Nat.le_trans ((Nat.le_trans ((Nat.le_trans (hu188.out.size) hu191.out.size)) hu194.out.size)) lbb195.out) hs209.out).trans hu219.out).trans hu222.out).sto (Nat.le_trans ((Nat.le_trans ((Nat.le_trans ((Nat.le_trans ((Nat.le_trans ((Nat.le_trans ((Nat.le_trans ((Nat.le_trans (hu188.out.size) hu191.out.size)) hu194.out.size)) hu197.out.size)) (Nat.le_of_eq hs199.out.size.symm))) (Nat.le_of_eq hs204.out.size.symm))) (Nat.le_of_eq hs209.out.size.symm))) hu219.out.size)) lbb220.out) hs224.out).trans hu233.out).trans hu236.out).sto (Nat.le_trans ((Nat.le_trans ((Nat.le_trans ((Nat.le_trans ((Nat.le_trans ((Nat.le_trans ((Nat.le_trans ((Nat.le_trans ((Nat.le_trans ((Nat.le_trans ((Nat.le_trans (hu188.out.size) hu191.out.size)) hu194.out.size)) hu197.out.size)) (Nat.le_of_eq hs199.out.size.symm))) (Nat.le_of_eq hs204.out.size.symm))) (Nat.le_of_eq hs209.out.size.symm))) hu219.out.size)) hu222.out.size)) (Nat.le_of_eq hs224.out.size.symm))) hu233.out.size)) lbb234.out) hs238.out))
 have h250 := (h175.up ((((((((((((hu188.out.trans hu191.out).trans hu194.out).trans hu197.out).sto (Nat.le_trans (hu188.out.size) lbb189.out) hs199.out).sto (Nat.le_trans ((Nat.le_trans (hu188.out.size) hu191.out.size)) lbb192.out) hs204.out).sto (Nat.le_trans ((Nat.le_trans ((Nat.le_trans (hu188.out.size) hu191.out.size)) hu194.out.size)) lbb195.out) hs209.out).trans hu219.out).trans hu222.out).sto (Nat.le_trans ((Nat.le_trans ((Nat.le_trans ((Nat.le_trans ((Nat.le_trans ((Nat.le_trans ((Nat.le_trans ((Nat.le_trans (hu188.out.size) hu191.out.size)) hu194.out.size)) hu197.out.size)) (Nat.le_of_eq hs199.out.size.symm))) (Nat.le_of_eq hs204.out.size.symm))) (Nat.le_of_eq hs209.out.size.symm))) hu219.out.size)) lbb220.out) hs224.out).trans hu233.out).trans hu236.out).sto (Nat.le_trans ((Nat.le_trans ((Nat.le_trans ((Nat.le_trans ((Nat.le_trans ((Nat.le_trans ((Nat.le_trans ((Nat.le_trans ((Nat.le_trans ((Nat.le_trans ((Nat.le_trans (hu188.out.size) hu191.out.size)) hu194.out.size)) hu197.out.size)) (Nat.le_of_eq hs199.out.size.symm))) (Nat.le_of_eq hs204.out.size.symm))) (Nat.le_of_eq hs209.out.size.symm))) hu219.out.size)) hu222.out.size)) (Nat.le_of_eq hs224.out.size.symm))) hu233.out.size)) lbb234.out) hs238.out))
 have h251 := (h176.up ((((((((((((hu188.out.trans hu191.out).trans hu194.out).trans hu197.out).sto (Nat.le_trans (hu188.out.size) lbb189.out) hs199.out).sto (Nat.le_trans ((Nat.le_trans (hu188.out.size) hu191.out.size)) lbb192.out) hs204.out).sto (Nat.le_trans ((Nat.le_trans ((Nat.le_trans (hu188.out.size) hu191.out.size)) hu194.out.size)) lbb195.out) hs209.out).trans hu219.out).trans hu222.out).sto (Nat.le_trans ((Nat.le_trans ((Nat.le_trans ((Nat.le_trans ((Nat.le_trans ((Nat.le_trans ((Nat.le_trans ((Nat.le_trans (hu188.out.size) hu191.out.size)) hu194.out.size)) hu197.out.size)) (Nat.le_of_eq hs199.out.size.symm))) (Nat.le_of_eq hs204.out.size.symm))) (Nat.le_of_eq hs209.out.size.symm))) hu219.out.size)) lbb220.out) hs224.out).trans hu233.out).trans hu236.out).sto (Nat.le_trans ((Nat.le_trans ((Nat.le_trans ((Nat.le_trans ((Nat.le_trans ((Nat.le_trans ((Nat.le_trans ((Nat.le_trans ((Nat.le_trans ((Nat.le_trans ((Nat.le_trans (hu188.out.size) hu191.out.size)) hu194.out.size)) hu197.out.size)) (Nat.le_of_eq hs199.out.size.symm))) (Nat.le_of_eq hs204.out.size.symm))) (Nat.le_of_eq hs209.out.size.symm))) hu219.out.size)) hu222.out.size)) (Nat.le_of_eq hs224.out.size.symm))) hu233.out.size)) lbb234.out) hs238.out))
 have h252 := (hb164.up ((((((((((((hu188.out.trans hu191.out).trans hu194.out).trans hu197.out).sto (Nat.le_trans (hu188.out.size) lbb189.out) hs199.out).sto (Nat.le_trans ((Nat.le_trans (hu188.out.size) hu191.out.size)) lbb192.out) hs204.out).sto (Nat.le_trans ((Nat.le_trans ((Nat.le_trans (hu188.out.size) hu191.out.size)) hu194.out.size)) lbb195.out) hs209.out).trans hu219.out).trans hu222.out).sto (Nat.le_trans ((Nat.le_trans ((Nat.le_trans ((Nat.le_trans ((Nat.le_trans ((Nat.le_trans ((Nat.le_trans ((Nat.le_trans (hu188.out.size) hu191.out.size)) hu194.out.size)) hu197.out.size)) (Nat.le_of_eq hs199.out.size.symm))) (Nat.le_of_eq hs204.out.size.symm))) (Nat.le_of_eq hs209.out.size.symm))) hu219.out.size)) lbb220.out) hs224.out).trans hu233.out).trans hu236.out).sto (Nat.le_trans ((Nat.le_trans ((Nat.le_trans ((Nat.le_trans ((Nat.le_trans ((Nat.le_trans ((Nat.le_trans ((Nat.le_trans ((Nat.le_trans ((Nat.le_trans ((Nat.le_trans (hu188.out.size) hu191.out.size)) hu194.out.size)) hu197.out.size)) (Nat.le_of_eq hs199.out.size.symm))) (Nat.le_of_eq hs204.out.size.symm))) (Nat.le_of_eq hs209.out.size.symm))) hu219.out.size)) hu222.out.size)) (Nat.le_of_eq hs224.out.size.symm))) hu233.out.size)) lbb234.out) hs238.out))
 have h253 := (h211.up (((((hu219.out.trans hu222.out).sto (Nat.le_trans (hu219.out.size) lbb220.out) hs224.out).trans hu233.out).trans hu236.out).sto (Nat.le_trans ((Nat.le_trans ((Nat.le_trans ((Nat.le_trans (hu219.out.size) hu222.out.size)) (Nat.le_of_eq hs224.out.size.symm))) hu233.out.size)) lbb234.out) hs238.out))
 have h254 := (h212.up (((((hu219.out.trans hu222.out).sto (Nat.le_trans (hu219.out.size) lbb220.out) hs224.out).trans hu233.out).trans hu236.out).sto (Nat.le_trans ((Nat.le_trans ((Nat.le_trans ((Nat.le_trans (hu219.out.size) hu222.out.size)) (Nat.le_of_eq hs224.out.size.symm))) hu233.out.size)) lbb234.out) hs238.out))
 have h255 := (hb210.up (((((hu219.out.trans hu222.out).sto (Nat.le_trans (hu219.out.size) lbb220.out) hs224.out).trans hu233.out).trans hu236.out).sto (Nat.le_trans ((Nat.le_trans ((Nat.le_trans ((Nat.le_trans (hu219.out.size) hu222.out.size)) (Nat.le_of_eq hs224.out.size.symm))) hu233.out.size)) lbb234.out) hs238.out))
 have h256 := (hb225.up ((hu233.out.trans hu236.out).sto (Nat.le_trans (hu233.out.size) lbb234.out) hs238.out))
 by_cases c241 : (t216 == t230) = true
 rotate_left
 ·
  rw [if_neg c241] at H; replace c241 := Bool.eq_false_iff.mpr c241
  have c241n : (t216 != t230) = true := by rw [bne, c241]; rfl
  have c241p : ¬ t216 = t230 := fun e => by simp [e] at c241
  obtain rfl := Option.some.inj H
  try simp only [c241, c241n, Bool.not_true, Bool.not_false]
  refine step_no rfl ?_
  simp only [Act.put, nm1, nm2, nm3, i64_w]
  refine step_no rfl ?_
  simp only [Act.put, nm1, nm2, nm3, i64_w]
  refine step_no rfl ?_
  simp only [Act.put, nm1, nm2, nm3, i64_w]
  refine wpp fun K_ h_ => ?_; go_simp; refine h_ _ _ ?_; clear h_ K_
  refine wpList_nil ?_
  (try simp only [Exit.then, Exit.inBlock, ↓reduceIte, Nat.reduceEqDiff])
  refine hK240 _ _ ?_
  refine wp_cond_true rfl ?_
  refine wp_seq_k (fun K486 hK486 => ?_)
  refine wp_region_lit ?_
  refine wpp fun K_ h_ => ?_; go_simp; refine h_ _ _ ?_; clear h_ K_
  refine wpList_nil ?_
  (try simp only [Exit.then, Exit.inBlock, ↓reduceIte, Nat.reduceEqDiff])
  refine hK486 _ _ ?_
  refine wp_ret ?_
  (try simp only [Exit.then, Exit.inBlock, ↓reduceIte, Nat.reduceEqDiff])
  refine hQf _ _ _ ?_
  exact bodyPost_ret (v := .bool false) (by first | rfl | (simp [results, Try.results5, go_sem]; done) | (simp [results, Try.results5, go_sem]; rfl)) rfl ⟨rfl, hm242.out⟩
 rw [if_pos c241] at H
 have c241n : (t216 != t230) = false := by rw [bne, c241]; rfl
 try simp only [c241, c241n, Bool.not_true, Bool.not_false]
 have cl0 := h256.cell (o := 0) rfl
 have cl1 := h256.cell (o := 1) rfl
 refine wpList_step fun K_ h_ => ?_; go_simp; refine h_ _ _ ?_; clear h_ K_
 clear cl0 cl1
 have cl0 := hb239.cell (o := 0) rfl
 have cl1 := hb239.cell (o := 1) rfl
 refine wpList_step fun K_ h_ => ?_; go_simp; refine h_ _ _ ?_; clear h_ K_
 clear cl0 cl1
 refine wpList_step fun K_ h_ => ?_; go_simp; refine h_ _ _ ?_; clear h_ K_
 refine wpp fun K_ h_ => ?_; go_simp; refine h_ _ _ ?_; clear h_ K_
 refine wpList_nil ?_
 (try simp only [Exit.then, Exit.inBlock, ↓reduceIte, Nat.reduceEqDiff])
 refine hK240 _ _ ?_
 by_cases c257 : (t214 == t228 && t215 == t229) = true
 rotate_left
 ·
  rw [if_neg c257] at H; replace c257 := Bool.eq_false_iff.mpr c257
  have c257n : (!t214 == t228 || !t215 == t229) = true := by simp only [← Bool.not_and, c257, Bool.not_true, Bool.not_false]
  obtain rfl := Option.some.inj H
  try simp only [c257, c257n, Bool.not_true, Bool.not_false]
  refine wp_cond_true rfl ?_
  refine wp_seq_k (fun K485 hK485 => ?_)
  refine wp_region_lit ?_
  refine wpp fun K_ h_ => ?_; go_simp; refine h_ _ _ ?_; clear h_ K_
  refine wpList_nil ?_
  (try simp only [Exit.then, Exit.inBlock, ↓reduceIte, Nat.reduceEqDiff])
  refine hK485 _ _ ?_
  as_aux_lemma =>
  refine wp_ret ?_
  (try simp only [Exit.then, Exit.inBlock, ↓reduceIte, Nat.reduceEqDiff])
  refine hQf _ _ _ ?_
  exact bodyPost_ret (v := .bool false) (by first | rfl | (simp [results, Try.results5, go_sem]; done) | (simp [results, Try.results5, go_sem]; rfl)) rfl ⟨rfl, hm242.out⟩
 rw [if_pos c257] at H
 have c257n : (!t214 == t228 || !t215 == t229) = false := by simp only [← Bool.not_and, c257, Bool.not_true, Bool.not_false]
 replace H := Option.bind_eq_some_iff.mp H
 obtain ⟨⟨t259, t260, t261, t262⟩, A263, H⟩ := H
 replace A263 := Aside0.mk A263
 try dsimp only at H
 replace H := Option.bind_eq_some_iff.mp H
 obtain ⟨⟨t274, t275, t276, t277⟩, A278, H⟩ := H
 replace A278 := Aside0.mk A278
 try dsimp only at H
 try simp only [c257, c257n, Bool.not_true, Bool.not_false]
 refine wp_cond_false rfl ?_
 refine wp_skip ?_
 (try simp only [Exit.then, Exit.inBlock, ↓reduceIte, Nat.reduceEqDiff])
 refine hK226 _ _ ?_
 refine wp_seq_k (fun K258 hK258 => ?_)
 refine wp_region_lit ?_
 refine wpp fun K_ h_ => ?_; go_simp; refine h_ _ _ ?_; clear h_ K_
 have cl0 := h253.cell (o := 0) rfl
 have cl1 := h253.cell (o := 1) rfl
 refine wpp fun K_ h_ => ?_; go_simp; refine h_ _ _ ?_; clear h_ K_
 clear cl0 cl1
 have cl0 := h254.cell (o := 0) rfl
 have cl1 := h254.cell (o := 1) rfl
 refine wpp fun K_ h_ => ?_; go_simp; refine h_ _ _ ?_; clear h_ K_
 clear cl0 cl1
 have cl0 := h255.cell (o := 0) rfl
 have cl1 := h255.cell (o := 1) rfl
 refine wpp fun K_ h_ => ?_; go_simp; refine h_ _ _ ?_; clear h_ K_
 clear cl0 cl1
 refine step_call (wanted_none rfl) (by go_simp <;> rfl) (impl_MedianOf.calls K t179 t180 t181 t182 t183 t184 t185 t259 t260 t261 t262 w237  A263.out) ?_
 rintro e w264 ⟨rfl, hu⟩
 have hu265 := Aside0.mk hu
 clear hu
 refine ⟨_, rfl, ?_⟩
 simp only [Act.put, nm1, nm2, nm3, i64_w]
 refine wpp fun K_ h_ => ?_; go_simp; refine h_ _ _ ?_; clear h_ K_
 refine wpp fun K_ h_ => ?_; go_simp; refine h_ _ _ ?_; clear h_ K_
 refine wpp fun K_ h_ => ?_; go_simp; refine h_ _ _ ?_; clear h_ K_
 refine step_new (cs := [.int .i64 0, .int .i64 0, .int .i64 0]) (T := 34) (f := fun b => .pointer (some ⟨b, 0, none⟩)) rfl (by go_simp <;> rfl) ?_
 intro b266 w267 hu lb hb266
 simp only [Act.put, nm1, nm2, nm3, i64_w]
 have lbb266 := Aside0.mk lb
 have ltb266 := Aside0.mk hb266.lt
 clear lb
 have hu268 := Aside0.mk hu
 clear hu
 have hB0 := hb266
 have cl0 := hB0.cell (o := 0) rfl
 have fr0 := hB0.free 0
 have cl1 := hB0.cell (o := 1) rfl
 have fr1 := hB0.free 1
 have cl2 := hB0.cell (o := 2) rfl
 have fr2 := hB0.free 2
 refine step_store (b := b266) (cs' := [.int .i64 t259, .int .i64 t260, .int .i64 t261]) (T := 34) (W' := (((w267.setCell ⟨b266, 0, none⟩ (.int .i64 t259)).setCell ⟨b266, 1, none⟩ (.int .i64 t260)).setCell ⟨b266, 2, none⟩ (.int .i64 t261))) rfl rfl (by go_simp <;> rfl) ((((Sto.refl _ _).setCell 0 _).setCell 1 _).setCell 2 _) ((((hB0).setCell 0 _).setCell 1 _).setCell 2 _) ?_
 clear hB0 cl0 fr0 cl1 fr1 cl2 fr2
 intro w269 hs hb271
 have hs270 := Aside0.mk hs
 clear hs
 refine wpp fun K_ h_ => ?_; go_simp; refine h_ _ _ ?_; clear h_ K_
 refine wpList_nil ?_
 (try simp only [Exit.then, Exit.inBlock, ↓reduceIte, Nat.reduceEqDiff])
 refine hK258 _ _ ?_
 refine wp_seq_k (fun K272 hK272 => ?_)
 refine wp_seq_k (fun K273 hK273 => ?_)
 refine wp_region_lit ?_
 refine wpp fun K_ h_ => ?_; go_simp; refine h_ _ _ ?_; clear h_ K_
 have cl0 := (h253.up ((hu265.out.trans hu268.out).sto (Nat.le_trans (hu265.out.size) lbb266.out) hs270.out)).cell (o := 0) rfl
 have cl1 := (h253.up ((hu265.out.trans hu268.out).sto (Nat.le_trans (hu265.out.size) lbb266.out) hs270.out)).cell (o := 1) rfl
 refine wpp fun K_ h_ => ?_; go_simp; refine h_ _ _ ?_; clear h_ K_
 clear cl0 cl1
 have cl0 := (h254.up ((hu265.out.trans hu268.out).sto (Nat.le_trans (hu265.out.size) lbb266.out) hs270.out)).cell (o := 0) rfl
 have cl1 := (h254.up ((hu265.out.trans hu268.out).sto (Nat.le_trans (hu265.out.size) lbb266.out) hs270.out)).cell (o := 1) rfl
 refine wpp fun K_ h_ => ?_; go_simp; refine h_ _ _ ?_; clear h_ K_
 clear cl0 cl1
 have cl0 := (h255.up ((hu265.out.trans hu268.out).sto (Nat.le_trans (hu265.out.size) lbb266.out) hs270.out)).cell (o := 0) rfl
 have cl1 := (h255.up ((hu265.out.trans hu268.out).sto (Nat.le_trans (hu265.out.size) lbb266.out) hs270.out)).cell (o := 1) rfl
 refine wpp fun K_ h_ => ?_; go_simp; refine h_ _ _ ?_; clear h_ K_
 clear cl0 cl1
 refine step_call (wanted_none rfl) (by go_simp <;> rfl) (spec_MedianOf.calls K t179 t180 t181 t182 t183 t184 t185 t274 t275 t276 t277 w269  A278.out) ?_
 rintro e w279 ⟨rfl, hu⟩
 have hu280 := Aside0.mk hu
 clear hu
 refine ⟨_, rfl, ?_⟩
 simp only [Act.put, nm1, nm2, nm3, i64_w]
 refine wpp fun K_ h_ => ?_; go_simp; refine h_ _ _ ?_; clear h_ K_
 refine wpp fun K_ h_ => ?_; go_simp; refine h_ _ _ ?_; clear h_ K_
 refine wpp fun K_ h_ => ?_; go_simp; refine h_ _ _ ?_; clear h_ K_
 refine step_new (cs := [.int .i64 0, .int .i64 0, .int .i64 0]) (T := 34) (f := fun b => .pointer (some ⟨b, 0, none⟩)) rfl (by go_simp <;> rfl) ?_
 intro b281 w282 hu lb hb281
 simp only [Act.put, nm1, nm2, nm3, i64_w]
 have lbb281 := Aside0.mk lb
 have ltb281 := Aside0.mk hb281.lt
 clear lb
 have hu283 := Aside0.mk hu
 clear hu
 have hB0 := hb281
 have cl0 := hB0.cell (o := 0) rfl
 have fr0 := hB0.free 0
 have cl1 := hB0.cell (o := 1) rfl
 have fr1 := hB0.free 1
 have cl2 := hB0.cell (o := 2) rfl
 have fr2 := hB0.free 2
 refine step_store (b := b281) (cs' := [.int .i64 t274, .int .i64 t275, .int .i64 t276]) (T := 34) (W' := (((w282.setCell ⟨b281, 0, none⟩ (.int .i64 t274)).setCell ⟨b281, 1, none⟩ (.int .i64 t275)).setCell ⟨b281, 2, none⟩ (.int .i64 t276))) rfl rfl (by go_simp <;> rfl) ((((Sto.refl _ _).setCell 0 _).setCell 1 _).setCell 2 _) ((((hB0).setCell 0 _).setCell 1 _).setCell 2 _) ?_
 clear hB0 cl0 fr0 cl1 fr1 cl2 fr2
 intro w284 hs hb286
 have hs285 := Aside0.mk hs
 clear hs
 refine wpp fun K_ h_ => ?_; go_simp; refine h_ _ _ ?_; clear h_ K_
 refine wpList_nil ?_
 (try simp only [Exit.then, Exit.inBlock, ↓reduceIte, Nat.reduceEqDiff])
 refine hK273 _ _ ?_
 as_aux_lemma =>
 refine wp_seq_k (fun K287 hK287 => ?_)
 refine wp_region_lit ?_
 refine wpp fun K_ h_ => ?_; go_simp; refine h_ _ _ ?_; clear h_ K_
 refine wpp fun K_ h_ => ?_; go_simp; refine h_ _ _ ?_; clear h_ K_
 refine wpp fun K_ h_ => ?_; go_simp; refine h_ _ _ ?_; clear h_ K_
 refine wpp fun K_ h_ => ?_; go_simp; refine h_ _ _ ?_; clear h_ K_
 have hm289 := Aside0.mk ((((((hm242.out.trans hu265.out).trans hu268.out).sto (Nat.le_trans ((Nat.le_trans (hm243.out) hu265.out.size)) lbb266.out) hs270.out).trans hu280.out).trans hu283.out).sto (Nat.le_trans ((Nat.le_trans ((Nat.le_trans ((Nat.le_trans ((Nat.le_trans (hm243.out) hu265.out.size)) hu268.out.size)) (Nat.le_of_eq hs270.out.size.symm))) hu280.out.size)) lbb281.out) hs285.out)
 have hm290 := Aside0.mk (Nat.le_trans ((Nat.le_trans ((Nat.le_trans ((Nat.le_trans ((Nat.le_trans ((Nat.le_trans (hm243.out) hu265.out.size)) hu268.out.size)) (Nat.le_of_eq hs270.out.size.symm))) hu280.out.size)) hu283.out.size)) (Nat.le_of_eq hs285.out.size.symm))
 have h291 := (h244.up (((((hu265.out.trans hu268.out).sto (Nat.le_trans (hu265.out.size) lbb266.out) hs270.out).trans hu280.out).trans hu283.out).sto (Nat.le_trans ((Nat.le_trans ((Nat.le_trans ((Nat.le_trans (hu265.out.size) hu268.out.size)) (Nat.le_of_eq hs270.out.size.symm))) hu280.out.size)) lbb281.out) hs285.out))
 have h292 := (h245.up (((((hu265.out.trans hu268.out).sto (Nat.le_trans (hu265.out.size) lbb266.out) hs270.out).trans hu280.out).trans hu283.out).sto (Nat.le_trans ((Nat.le_trans ((Nat.le_trans ((Nat.le_trans (hu265.out.size) hu268.out.size)) (Nat.le_of_eq hs270.out.size.symm))) hu280.out.size)) lbb281.out) hs285.out))
 have h293 := (h246.up (((((hu265.out.trans hu268.out).sto (Nat.le_trans (hu265.out.size) lbb266.out) hs270.out).trans hu280.out).trans hu283.out).sto (Nat.le_trans ((Nat.le_trans ((Nat.le_trans ((Nat.le_trans (hu265.out.size) hu268.out.size)) (Nat.le_of_eq hs270.out.size.symm))) hu280.out.size)) lbb281.out) hs285.out))
 have h294 := (h247.up (((((hu265.out.trans hu268.out).sto (Nat.le_trans (hu265.out.size) lbb266.out) hs270.out).trans hu280.out).trans hu283.out).sto (Nat.le_trans ((Nat.le_trans ((Nat.le_trans ((Nat.le_trans (hu265.out.size) hu268.out.size)) (Nat.le_of_eq hs270.out.size.symm))) hu280.out.size)) lbb281.out) hs285.out))
 have h295 := (h248.up (((((hu265.out.trans hu268.out).sto (Nat.le_trans (hu265.out.size) lbb266.out) hs270.out).trans hu280.out).trans hu283.out).sto (Nat.le_trans ((Nat.le_trans ((Nat.le_trans ((Nat.le_trans (hu265.out.size) hu268.out.size)) (Nat.le_of_eq hs270.out.size.symm))) hu280.out.size)) lbb281.out) hs285.out))
 have h296 := (h249.up (((((hu265.out.trans hu268.out).sto (Nat.le_trans (hu265.out.size) lbb266.out) hs270.out).trans hu280.out).trans hu283.out).sto (Nat.le_trans ((Nat.le_trans ((Nat.le_trans ((Nat.le_trans (hu265.out.size) hu268.out.size)) (Nat.le_of_eq hs270.out.size.symm))) hu280.out.size)) lbb281.out) hs285.out))
 have h297 := (h250.up (((((hu265.out.trans hu268.out).sto (Nat.le_trans (hu265.out.size) lbb266.out) hs270.out).trans hu280.out).trans hu283.out).sto (Nat.le_trans ((Nat.le_trans ((Nat.le_trans ((Nat.le_trans (hu265.out.size) hu268.out.size)) (Nat.le_of_eq hs270.out.size.symm))) hu280.out.size)) lbb281.out) hs285.out))
 have h298 := (h251.up (((((hu265.out.trans hu268.out).sto (Nat.le_trans (hu265.out.size) lbb266.out) hs270.out).trans hu280.out).trans hu283.out).sto (Nat.le_trans ((Nat.le_trans ((Nat.le_trans ((Nat.le_trans (hu265.out.size) hu268.out.size)) (Nat.le_of_eq hs270.out.size.symm))) hu280.out.size)) lbb281.out) hs285.out))
 have h299 := (h252.up (((((hu265.out.trans hu268.out).sto (Nat.le_trans (hu265.out.size) lbb266.out) hs270.out).trans hu280.out).trans hu283.out).sto (Nat.le_trans ((Nat.le_trans ((Nat.le_trans ((Nat.le_trans (hu265.out.size) hu268.out.size)) (Nat.le_of_eq hs270.out.size.symm))) hu280.out.size)) lbb281.out) hs285.out))
 have h300 := (h253.up (((((hu265.out.trans hu268.out).sto (Nat.le_trans (hu265.out.size) lbb266.out) hs270.out).trans hu280.out).trans hu283.out).sto (Nat.le_trans ((Nat.le_trans ((Nat.le_trans ((Nat.le_trans (hu265.out.size) hu268.out.size)) (Nat.le_of_eq hs270.out.size.symm))) hu280.out.size)) lbb281.out) hs285.out))
 have h301 := (h254.up (((((hu265.out.trans hu268.out).sto (Nat.le_trans (hu265.out.size) lbb266.out) hs270.out).trans hu280.out).trans hu283.out).sto (Nat.le_trans ((Nat.le_trans ((Nat.le_trans ((Nat.le_trans (hu265.out.size) hu268.out.size)) (Nat.le_of_eq hs270.out.size.symm))) hu280.out.size)) lbb281.out) hs285.out))
 have h302 := (h255.up (((((hu265.out.trans hu268.out).sto (Nat.le_trans (hu265.out.size) lbb266.out) hs270.out).trans hu280.out).trans hu283.out).sto (Nat.le_trans ((Nat.le_trans ((Nat.le_trans ((Nat.le_trans (hu265.out.size) hu268.out.size)) (Nat.le_of_eq hs270.out.size.symm))) hu280.out.size)) lbb281.out) hs285.out))
 have h303 := (h256.up (((((hu265.out.trans hu268.out).sto (Nat.le_trans (hu265.out.size) lbb266.out) hs270.out).trans hu280.out).trans hu283.out).sto (Nat.le_trans ((Nat.le_trans ((Nat.le_trans ((Nat.le_trans (hu265.out.size) hu268.out.size)) (Nat.le_of_eq hs270.out.size.symm))) hu280.out.size)) lbb281.out) hs285.out))
 have h304 := (hb239.up (((((hu265.out.trans hu268.out).sto (Nat.le_trans (hu265.out.size) lbb266.out) hs270.out).trans hu280.out).trans hu283.out).sto (Nat.le_trans ((Nat.le_trans ((Nat.le_trans ((Nat.le_trans (hu265.out.size) hu268.out.size)) (Nat.le_of_eq hs270.out.size.symm))) hu280.out.size)) lbb281.out) hs285.out))
 have h305 := (hb271.up ((hu280.out.trans hu283.out).sto (Nat.le_trans (hu280.out.size) lbb281.out) hs285.out))
 by_cases c288 : (t262 == t277) = true
 rotate_left
 ·
  rw [if_neg c288] at H; replace c288 := Bool.eq_false_iff.mpr c288
  have c288n : (t262 != t277) = true := by rw [bne, c288]; rfl
  have c288p : ¬ t262 = t277 := fun e => by simp [e] at c288
  obtain rfl := Option.some.inj H
  try simp only [c288, c288n, Bool.not_true, Bool.not_false]
  refine step_no rfl ?_
  simp only [Act.put, nm1, nm2, nm3, i64_w]
  refine step_no rfl ?_
  simp only [Act.put, nm1, nm2, nm3, i64_w]
  refine step_no rfl ?_
  simp only [Act.put, nm1, nm2, nm3, i64_w]
  refine wpp fun K_ h_ => ?_; go_simp; refine h_ _ _ ?_; clear h_ K_
  refine wpList_nil ?_
  (try simp only [Exit.then, Exit.inBlock, ↓reduceIte, Nat.reduceEqDiff])
  refine hK287 _ _ ?_
  refine wp_cond_true rfl ?_
  refine wp_seq_k (fun K484 hK484 => ?_)
  refine wp_region_lit ?_
  refine wpp fun K_ h_ => ?_; go_simp; refine h_ _ _ ?_; clear h_ K_
  refine wpList_nil ?_
  (try simp only [Exit.then, Exit.inBlock, ↓reduceIte, Nat.reduceEqDiff])
  refine hK484 _ _ ?_
  refine wp_ret ?_
  (try simp only [Exit.then, Exit.inBlock, ↓reduceIte, Nat.reduceEqDiff])
  refine hQf _ _ _ ?_
  exact bodyPost_ret (v := .bool false) (by first | rfl | (simp [results, Try.results5, go_sem]; done) | (simp [results, Try.results5, go_sem]; rfl)) rfl ⟨rfl, hm289.out⟩
 rw [if_pos c288] at H
 have c288n : (t262 != t277) = false := by rw [bne, c288]; rfl
 try simp only [c288, c288n, Bool.not_true, Bool.not_false]
 have cl0 := h305.cell (o := 0) rfl
 have cl1 := h305.cell (o := 1) rfl
 have cl2 := h305.cell (o := 2) rfl
 refine wpList_step fun K_ h_ => ?_; go_simp; refine h_ _ _ ?_; clear h_ K_
 clear cl0 cl1 cl2
 have cl0 := hb286.cell (o := 0) rfl
 have cl1 := hb286.cell (o := 1) rfl
 have cl2 := hb286.cell (o := 2) rfl
 refine wpList_step fun K_ h_ => ?_; go_simp; refine h_ _ _ ?_; clear h_ K_
 clear cl0 cl1 cl2
 refine wpList_step fun K_ h_ => ?_; go_simp; refine h_ _ _ ?_; clear h_ K_
 refine wpp fun K_ h_ => ?_; go_simp; refine h_ _ _ ?_; clear h_ K_
 refine wpList_nil ?_
 (try simp only [Exit.then, Exit.inBlock, ↓reduceIte, Nat.reduceEqDiff])
 refine hK287 _ _ ?_
 by_cases c306 : (t259 == t274 && (t260 == t275 && t261 == t276)) = true
 rotate_left
 ·
  rw [if_neg c306] at H; replace c306 := Bool.eq_false_iff.mpr c306
  have c306n : (!t259 == t274 || (!t260 == t275 || !t261 == t276)) = true := by simp only [← Bool.not_and, c306, Bool.not_true, Bool.not_false]
  obtain rfl := Option.some.inj H
  try simp only [c306, c306n, Bool.not_true, Bool.not_false]
  refine wp_cond_true rfl ?_
  refine wp_seq_k (fun K483 hK483 => ?_)
  refine wp_region_lit ?_
  refine wpp fun K_ h_ => ?_; go_simp; refine h_ _ _ ?_; clear h_ K_
  refine wpList_nil ?_
  (try simp only [Exit.then, Exit.inBlock, ↓reduceIte, Nat.reduceEqDiff])
  refine hK483 _ _ ?_
  as_aux_lemma =>
  refine wp_ret ?_
  (try simp only [Exit.then, Exit.inBlock, ↓reduceIte, Nat.reduceEqDiff])
  refine hQf _ _ _ ?_
  exact bodyPost_ret (v := .bool false) (by first | rfl | (simp [results, Try.results5, go_sem]; done) | (simp [results, Try.results5, go_sem]; rfl)) rfl ⟨rfl, hm289.out⟩
 rw [if_pos c306] at H
 have c306n : (!t259 == t274 || (!t260 == t275 || !t261 == t276)) = false := by simp only [← Bool.not_and, c306, Bool.not_true, Bool.not_false]
 try simp only [c306, c306n, Bool.not_true, Bool.not_false]
 refine wp_cond_false rfl ?_
 refine wp_skip ?_
 (try simp only [Exit.then, Exit.inBlock, ↓reduceIte, Nat.reduceEqDiff])
 refine hK272 _ _ ?_
 refine wp_seq_k (fun K307 hK307 => ?_)
 refine wp_seq_k (fun K308 hK308 => ?_)
 refine wp_region_lit ?_
 refine wpp fun K_ h_ => ?_; go_simp; refine h_ _ _ ?_; clear h_ K_
 refine wpp fun K_ h_ => ?_; go_simp; refine h_ _ _ ?_; clear h_ K_
 refine wpList_nil ?_
 (try simp only [Exit.then, Exit.inBlock, ↓reduceIte, Nat.reduceEqDiff])
 refine hK308 _ _ ?_
 by_cases c309 : (t216 == 0) = true
 rotate_left
 ·
  rw [if_neg c309] at H; replace c309 := Bool.eq_false_iff.mpr c309
  have c309n : (t216 != 0) = true := by rw [bne, c309]; rfl
  have c309p : ¬ t216 = 0 := fun e => by simp [e] at c309
  try simp only [c309, c309n, Bool.not_true, Bool.not_false]
  refine wp_cond_false rfl ?_
  refine wp_skip ?_
  (try simp only [Exit.then, Exit.inBlock, ↓reduceIte, Nat.reduceEqDiff])
  refine hK307 _ _ ?_
  refine wp_seq_k (fun K403 hK403 => ?_)
  refine wp_seq_k (fun K404 hK404 => ?_)
  refine wp_region_lit ?_
  refine wpp fun K_ h_ => ?_; go_simp; refine h_ _ _ ?_; clear h_ K_
  refine wpp fun K_ h_ => ?_; go_simp; refine h_ _ _ ?_; clear h_ K_
  refine wpList_nil ?_
  (try simp only [Exit.then, Exit.inBlock, ↓reduceIte, Nat.reduceEqDiff])
  refine hK404 _ _ ?_
  by_cases c405 : (t49 == 0) = true
  rotate_left
  ·
   rw [if_neg c405] at H; replace c405 := Bool.eq_false_iff.mpr c405
   have c405n : (t49 != 0) = true := by rw [bne, c405]; rfl
   have c405p : ¬ t49 = 0 := fun e => by simp [e] at c405
   try simp only [c405, c405n, Bool.not_true, Bool.not_false]
   refine wp_cond_true rfl ?_
   refine wp_seq_k (fun K480 hK480 => ?_)
   refine wp_region_lit ?_
   have cl0 := h294.cell (o := 0) rfl
   have cl1 := h294.cell (o := 1) rfl
   refine wpp fun K_ h_ => ?_; go_simp; refine h_ _ _ ?_; clear h_ K_
   clear cl0 cl1
   refine wpp fun K_ h_ => ?_; go_simp; refine h_ _ _ ?_; clear h_ K_
   refine wpp fun K_ h_ => ?_; go_simp; refine h_ _ _ ?_; clear h_ K_
   refine wpp fun K_ h_ => ?_; go_simp; refine h_ _ _ ?_; clear h_ K_
   by_cases c481 : (t47 == 0 && t48 == 0) = true
   rotate_left
   ·
    rw [if_neg c481] at H; replace c481 := Bool.eq_false_iff.mpr c481
    have c481n : (!t47 == 0 || !t48 == 0) = true := by simp only [← Bool.not_and, c481, Bool.not_true, Bool.not_false]
    obtain rfl := Option.some.inj H
    try simp only [c481, c481n, Bool.not_true, Bool.not_false]
    refine step_no rfl ?_
    simp only [Act.put, nm1, nm2, nm3, i64_w]
    refine step_no rfl ?_
    simp only [Act.put, nm1, nm2, nm3, i64_w]
    refine step_no rfl ?_
    simp only [Act.put, nm1, nm2, nm3, i64_w]
    refine wpp fun K_ h_ => ?_; go_simp; refine h_ _ _ ?_; clear h_ K_
    refine wpp fun K_ h_ => ?_; go_simp; refine h_ _ _ ?_; clear h_ K_
    refine step_no rfl ?_
    simp only [Act.put, nm1, nm2, nm3, i64_w]
    refine step_no rfl ?_
    simp only [Act.put, nm1, nm2, nm3, i64_w]
    refine step_no rfl ?_
    simp only [Act.put, nm1, nm2, nm3, i64_w]
    refine wpp fun K_ h_ => ?_; go_simp; refine h_ _ _ ?_; clear h_ K_
    refine wpp fun K_ h_ => ?_; go_simp; refine h_ _ _ ?_; clear h_ K_
    refine wpList_nil ?_
    (try simp only [Exit.then, Exit.inBlock, ↓reduceIte, Nat.reduceEqDiff])
    refine hK480 _ _ ?_
    as_aux_lemma =>
    refine wp_ret ?_
    (try simp only [Exit.then, Exit.inBlock, ↓reduceIte, Nat.reduceEqDiff])
    refine hQf _ _ _ ?_
    exact bodyPost_ret (v := .bool false) (by first | rfl | (simp [results, Try.results5, go_sem]; done) | (simp [results, Try.results5, go_sem]; rfl)) rfl ⟨rfl, hm289.out⟩
   rw [if_pos c481] at H
   have c481n : (!t47 == 0 || !t48 == 0) = false := by simp only [← Bool.not_and, c481, Bool.not_true, Bool.not_false]
   try simp only [c481, c481n, Bool.not_true, Bool.not_false]
   refine wpList_step fun K_ h_ => ?_; go_simp; refine h_ _ _ ?_; clear h_ K_
   refine wpList_step fun K_ h_ => ?_; go_simp; refine h_ _ _ ?_; clear h_ K_
   refine wpList_step fun K_ h_ => ?_; go_simp; refine h_ _ _ ?_; clear h_ K_
   refine wpp fun K_ h_ => ?_; go_simp; refine h_ _ _ ?_; clear h_ K_
   refine wpp fun K_ h_ => ?_; go_simp; refine h_ _ _ ?_; clear h_ K_
   by_cases c482 : (t85 == t49) = true
   ·
    rw [if_pos c482] at H
    have c482n : (t85 != t49) = false := by rw [bne, c482]; rfl
    obtain rfl := Option.some.inj H
    try simp only [c482, c482n, Bool.not_true, Bool.not_false]
    refine wpList_step fun K_ h_ => ?_; go_simp; refine h_ _ _ ?_; clear h_ K_
    refine wpList_step fun K_ h_ => ?_; go_simp; refine h_ _ _ ?_; clear h_ K_
    refine wpList_step fun K_ h_ => ?_; go_simp; refine h_ _ _ ?_; clear h_ K_
    refine wpp fun K_ h_ => ?_; go_simp; refine h_ _ _ ?_; clear h_ K_
    refine wpp fun K_ h_ => ?_; go_simp; refine h_ _ _ ?_; clear h_ K_
    refine wpList_nil ?_
    (try simp only [Exit.then, Exit.inBlock, ↓reduceIte, Nat.reduceEqDiff])
    refine hK480 _ _ ?_
    refine wp_ret ?_
    (try simp only [Exit.then, Exit.inBlock, ↓reduceIte, Nat.reduceEqDiff])
    refine hQf _ _ _ ?_
    exact bodyPost_ret (v := .bool (t122 == t49)) (by first | rfl | (simp [results, Try.results5, go_sem]; done) | (simp [results, Try.results5, go_sem]; rfl)) rfl ⟨rfl, hm289.out⟩
   rw [if_neg c482] at H; replace c482 := Bool.eq_false_iff.mpr c482
   have c482n : (t85 != t49) = true := by rw [bne, c482]; rfl
   have c482p : ¬ t85 = t49 := fun e => by simp [e] at c482
   obtain rfl := Option.some.inj H
   try simp only [c482, c482n, Bool.not_true, Bool.not_false]
   refine step_no rfl ?_
   simp only [Act.put, nm1, nm2, nm3, i64_w]
   refine step_no rfl ?_
   simp only [Act.put, nm1, nm2, nm3, i64_w]
   refine step_no rfl ?_
   simp only [Act.put, nm1, nm2, nm3, i64_w]
   refine wpp fun K_ h_ => ?_; go_simp; refine h_ _ _ ?_; clear h_ K_
   refine wpp fun K_ h_ => ?_; go_simp; refine h_ _ _ ?_; clear h_ K_
   refine wpList_nil ?_
   (try simp only [Exit.then, Exit.inBlock, ↓reduceIte, Nat.reduceEqDiff])
   refine hK480 _ _ ?_
   refine wp_ret ?_
   (try simp only [Exit.then, Exit.inBlock, ↓reduceIte, Nat.reduceEqDiff])
   refine hQf _ _ _ ?_
   exact bodyPost_ret (v := .bool false) (by first | rfl | (simp [results, Try.results5, go_sem]; done) | (simp [results, Try.results5, go_sem]; rfl)) rfl ⟨rfl, hm289.out⟩
  rw [if_pos c405] at H
  have c405n : (t49 != 0) = false := by rw [bne, c405]; rfl
  replace H := Option.bind_eq_some_iff.mp H
  obtain ⟨⟨t407, t408⟩, A409, H⟩ := H
  replace A409 := Aside0.mk A409
  try dsimp only at H
  replace H := Option.bind_eq_some_iff.mp H
  obtain ⟨⟨t413, t414⟩, A415, H⟩ := H
  replace A415 := Aside0.mk A415
  try dsimp only at H
  replace H := Option.bind_eq_some_iff.mp H
  obtain ⟨⟨t419, t420⟩, A421, H⟩ := H
  replace A421 := Aside0.mk A421
  try dsimp only at H
  replace H := Option.bind_eq_some_iff.mp H
  obtain ⟨⟨t425, t426⟩, A427, H⟩ := H
  replace A427 := Aside0.mk A427
  try dsimp only at H
  replace H := Option.bind_eq_some_iff.mp H
  obtain ⟨⟨t431, t432, t433, t434⟩, A435, H⟩ := H
  replace A435 := Aside0.mk A435
  try dsimp only at H
  replace H := Option.bind_eq_some_iff.mp H
  obtain ⟨⟨t445, t446⟩, A447, H⟩ := H
  replace A447 := Aside0.mk A447
  try dsimp only at H
  try simp only [c405, c405n, Bool.not_true, Bool.not_false]
  refine wp_cond_false rfl ?_
  refine wp_skip ?_
  (try simp only [Exit.then, Exit.inBlock, ↓reduceIte, Nat.reduceEqDiff])
  refine hK403 _ _ ?_
  as_aux_lemma =>
  refine wp_seq_k (fun K406 hK406 => ?_)
  refine wp_region_lit ?_
  refine wpp fun K_ h_ => ?_; go_simp; refine h_ _ _ ?_; clear h_ K_
  have cl0 := h294.cell (o := 0) rfl
  have cl1 := h294.cell (o := 1) rfl
  refine wpp fun K_ h_ => ?_; go_simp; refine h_ _ _ ?_; clear h_ K_
  clear cl0 cl1
  have cl0 := h298.cell (o := 0) rfl
  have cl1 := h298.cell (o := 1) rfl
  have cl2 := h298.cell (o := 2) rfl
  refine wpp fun K_ h_ => ?_; go_simp; refine h_ _ _ ?_; clear h_ K_
  clear cl0 cl1 cl2
  refine step_call (wanted_none rfl) (by go_simp <;> rfl) (impl_IsOnLine.calls K t11 t47 t48 t137 t138 t139 t407 t408 w284  A409.out) ?_
  rintro e w410 ⟨rfl, hu⟩
  have hu411 := Aside0.mk hu
  clear hu
  refine ⟨_, rfl, ?_⟩
  simp only [Act.put, nm1, nm2, nm3, i64_w]
  refine wpp fun K_ h_ => ?_; go_simp; refine h_ _ _ ?_; clear h_ K_
  refine wpp fun K_ h_ => ?_; go_simp; refine h_ _ _ ?_; clear h_ K_
  refine wpp fun K_ h_ => ?_; go_simp; refine h_ _ _ ?_; clear h_ K_
  refine wpp fun K_ h_ => ?_; go_simp; refine h_ _ _ ?_; clear h_ K_
  refine wpp fun K_ h_ => ?_; go_simp; refine h_ _ _ ?_; clear h_ K_
  refine wpList_nil ?_
  (try simp only [Exit.then, Exit.inBlock, ↓reduceIte, Nat.reduceEqDiff])
  refine hK406 _ _ ?_
  refine wp_seq_k (fun K412 hK412 => ?_)
  refine wp_region_lit ?_
  refine wpp fun K_ h_ => ?_; go_simp; refine h_ _ _ ?_; clear h_ K_
  refine wpp fun K_ h_ => ?_; go_simp; refine h_ _ _ ?_; clear h_ K_
  have cl0 := (h296.up hu411.out).cell (o := 0) rfl
  have cl1 := (h296.up hu411.out).cell (o := 1) rfl
  refine wpp fun K_ h_ => ?_; go_simp; refine h_ _ _ ?_; clear h_ K_
  clear cl0 cl1
  have cl0 := (h291.up hu411.out).cell (o := 0) rfl
  have cl1 := (h291.up hu411.out).cell (o := 1) rfl
  refine wpp fun K_ h_ => ?_; go_simp; refine h_ _ _ ?_; clear h_ K_
  clear cl0 cl1
  refine step_call (wanted_none rfl) (by go_simp <;> rfl) (impl_Quadrance.calls K t11 t12 t83 t84 t13 t14 t413 t414 w410  A415.out) ?_
  rintro e w416 ⟨rfl, hu⟩
  have hu417 := Aside0.mk hu
  clear hu
  refine ⟨_, rfl, ?_⟩
  simp only [Act.put, nm1, nm2, nm3, i64_w]
  refine wpp fun K_ h_ => ?_; go_simp; refine h_ _ _ ?_; clear h_ K_
  refine wpp fun K_ h_ => ?_; go_simp; refine h_ _ _ ?_; clear h_ K_
  refine wpp fun K_ h_ => ?_; go_simp; refine h_ _ _ ?_; clear h_ K_
  refine wpp fun K_ h_ => ?_; go_simp; refine h_ _ _ ?_; clear h_ K_
  refine wpp fun K_ h_ => ?_; go_simp; refine h_ _ _ ?_; clear h_ K_
  refine wpList_nil ?_
  (try simp only [Exit.then, Exit.inBlock, ↓reduceIte, Nat.reduceEqDiff])
  refine hK412 _ _ ?_
  refine wp_seq_k (fun K418 hK418 => ?_)
  refine wp_region_lit ?_
  refine wpp fun K_ h_ => ?_; go_simp; refine h_ _ _ ?_; clear h_ K_
  refine wpp fun K_ h_ => ?_; go_simp; refine h_ _ _ ?_; clear h_ K_
  have cl0 := (h296.up (hu411.out.trans hu417.out)).cell (o := 0) rfl
  have cl1 := (h296.up (hu411.out.trans hu417.out)).cell (o := 1) rfl
  refine wpp fun K_ h_ => ?_; go_simp; refine h_ _ _ ?_; clear h_ K_
  clear cl0 cl1
  have cl0 := (h292.up (hu411.out.trans hu417.out)).cell (o := 0) rfl
  have cl1 := (h292.up (hu411.out.trans hu417.out)).cell (o := 1) rfl
  refine wpp fun K_ h_ => ?_; go_simp; refine h_ _ _ ?_; clear h_ K_
  clear cl0 cl1
  refine step_call (wanted_none rfl) (by go_simp <;> rfl) (impl_Quadrance.calls K t11 t12 t83 t84 t15 t16 t419 t420 w416  A421.out) ?_
  rintro e w422 ⟨rfl, hu⟩
  have hu423 := Aside0.mk hu
  clear hu
  refine ⟨_, rfl, ?_⟩
  simp only [Act.put, nm1, nm2, nm3, i64_w]
  refine wpp fun K_ h_ => ?_; go_simp; refine h_ _ _ ?_; clear h_ K_
  refine wpp fun K_ h_ => ?_; go_simp; refine h_ _ _ ?_; clear h_ K_
  refine wpp fun K_ h_ => ?_; go_simp; refine h_ _ _ ?_; clear h_ K_
  refine wpp fun K_ h_ => ?_; go_simp; refine h_ _ _ ?_; clear h_ K_
  refine wpp fun K_ h_ => ?_; go_simp; refine h_ _ _ ?_; clear h_ K_
  refine wpList_nil ?_
  (try simp only [Exit.then, Exit.inBlock, ↓reduceIte, Nat.reduceEqDiff])
  refine hK418 _ _ ?_
  refine wp_seq_k (fun K424 hK424 => ?_)
  refine wp_region_lit ?_
  refine wpp fun K_ h_ => ?_; go_simp; refine h_ _ _ ?_; clear h_ K_
  refine wpp fun K_ h_ => ?_; go_simp; refine h_ _ _ ?_; clear h_ K_
  have cl0 := (h296.up ((hu411.out.trans hu417.out).trans hu423.out)).cell (o := 0) rfl
  have cl1 := (h296.up ((hu411.out.trans hu417.out).trans hu423.out)).cell (o := 1) rfl
  refine wpp fun K_ h_ => ?_; go_simp; refine h_ _ _ ?_; clear h_ K_
  clear cl0 cl1
  have cl0 := (h293.up ((hu411.out.trans hu417.out).trans hu423.out)).cell (o := 0) rfl
  have cl1 := (h293.up ((hu411.out.trans hu417.out).trans hu423.out)).cell (o := 1) rfl
  refine wpp fun K_ h_ => ?_; go_simp; refine h_ _ _ ?_; clear h_ K_
  clear cl0 cl1
  refine step_call (wanted_none rfl) (by go_simp <;> rfl) (impl_Quadrance.calls K t11 t12 t83 t84 t17 t18 t425 t426 w422  A427.out) ?_
  rintro e w428 ⟨rfl, hu⟩
  have hu429 := Aside0.mk hu
  clear hu
  refine ⟨_, rfl, ?_⟩
  simp only [Act.put, nm1, nm2, nm3, i64_w]
  refine wpp fun K_ h_ => ?_; go_simp; refine h_ _ _ ?_; clear h_ K_
  refine wpp fun K_ h_ => ?_; go_simp; refine h_ _ _ ?_; clear h_ K_
  refine wpp fun K_ h_ => ?_; go_simp; refine h_ _ _ ?_; clear h_ K_
  refine wpp fun K_ h_ => ?_; go_simp; refine h_ _ _ ?_; clear h_ K_
  refine wpp fun K_ h_ => ?_; go_simp; refine h_ _ _ ?_; clear h_ K_
  refine wpList_nil ?_
  (try simp only [Exit.then, Exit.inBlock, ↓reduceIte, Nat.reduceEqDiff])
  refine hK424 _ _ ?_
  as_aux_lemma =>
  refine wp_seq_k (fun K430 hK430 => ?_)
  refine wp_region_lit ?_
  refine wpp fun K_ h_ => ?_; go_simp; refine h_ _ _ ?_; clear h_ K_
  have cl0 := (h292.up (((hu411.out.trans hu417.out).trans hu423.out).trans hu429.out)).cell (o := 0) rfl
  have cl1 := (h292.up (((hu411.out.trans hu417.out).trans hu423.out).trans hu429.out)).cell (o := 1) rfl
  refine wpp fun K_ h_ => ?_; go_simp; refine h_ _ _ ?_; clear h_ K_
  clear cl0 cl1
  have cl0 := (h293.up (((hu411.out.trans hu417.out).trans hu423.out).trans hu429.out)).cell (o := 0) rfl
  have cl1 := (h293.up (((hu411.out.trans hu417.out).trans hu423.out).trans hu429.out)).cell (o := 1) rfl
  refine wpp fun K_ h_ => ?_; go_simp; refine h_ _ _ ?_; clear h_ K_
  clear cl0 cl1
  refine step_call (wanted_none rfl) (by go_simp <;> rfl) (impl_LineThrough.calls K t11 t15 t16 t17 t18 t431 t432 t433 t434 w428  A435.out) ?_
  rintro e w436 ⟨rfl, hu⟩
  have hu437 := Aside0.mk hu
  clear hu
  refine ⟨_, rfl, ?_⟩
  simp only [Act.put, nm1, nm2, nm3, i64_w]
  refine wpp fun K_ h_ => ?_; go_simp; refine h_ _ _ ?_; clear h_ K_
  refine wpp fun K_ h_ => ?_; go_simp; refine h_ _ _ ?_; clear h_ K_
  refine wpp fun K_ h_ => ?_; go_simp; refine h_ _ _ ?_; clear h_ K_
  refine step_new (cs := [.int .i64 0, .int .i64 0, .int .i64 0]) (T := 34) (f := fun b => .pointer (some ⟨b, 0, none⟩)) rfl (by go_simp <;> rfl) ?_
  intro b438 w439 hu lb hb438
  simp only [Act.put, nm1, nm2, nm3, i64_w]
  have lbb438 := Aside0.mk lb
  have ltb438 := Aside0.mk hb438.lt
  clear lb
  have hu440 := Aside0.mk hu
  clear hu
  have hB0 := hb438
  have cl0 := hB0.cell (o := 0) rfl
  have fr0 := hB0.free 0
  have cl1 := hB0.cell (o := 1) rfl
  have fr1 := hB0.free 1
  have cl2 := hB0.cell (o := 2) rfl
  have fr2 := hB0.free 2
  refine step_store (b := b438) (cs' := [.int .i64 t431, .int .i64 t432, .int .i64 t433]) (T := 34) (W' := (((w439.setCell ⟨b438, 0, none⟩ (.int .i64 t431)).setCell ⟨b438, 1, none⟩ (.int .i64 t432)).setCell ⟨b438, 2, none⟩ (.int .i64 t433))) rfl rfl (by go_simp <;> rfl) ((((Sto.refl _ _).setCell 0 _).setCell 1 _).setCell 2 _) ((((hB0).setCell 0 _).setCell 1 _).setCell 2 _) ?_
  clear hB0 cl0 fr0 cl1 fr1 cl2 fr2
  intro w441 hs hb443
  have hs442 := Aside0.mk hs
  clear hs
  refine wpp fun K_ h_ => ?_; go_simp; refine h_ _ _ ?_; clear h_ K_
  refine wpList_nil ?_
  (try simp only [Exit.then, Exit.inBlock, ↓reduceIte, Nat.reduceEqDiff])
  refine hK430 _ _ ?_
  refine wp_seq_k (fun K444 hK444 => ?_)
  refine wp_region_lit ?_
  refine wpp fun K_ h_ => ?_; go_simp; refine h_ _ _ ?_; clear h_ K_
  refine wpp fun K_ h_ => ?_; go_simp; refine h_ _ _ ?_; clear h_ K_
  have cl0 := hb443.cell (o := 0) rfl
  have cl1 := hb443.cell (o := 1) rfl
  have cl2 := hb443.cell (o := 2) rfl
  refine wpp fun K_ h_ => ?_; go_simp; refine h_ _ _ ?_; clear h_ K_
  clear cl0 cl1 cl2
  have cl0 := (h298.up ((((((hu411.out.trans hu417.out).trans hu423.out).trans hu429.out).trans hu437.out).trans hu440.out).sto (Nat.le_trans ((Nat.le_trans ((Nat.le_trans ((Nat.le_trans ((Nat.le_trans (hu411.out.size) hu417.out.size)) hu423.out.size)) hu429.out.size)) hu437.out.size)) lbb438.out) hs442.out)).cell (o := 0) rfl
  have cl1 := (h298.up ((((((hu411.out.trans hu417.out).trans hu423.out).trans hu429.out).trans hu437.out).trans hu440.out).sto (Nat.le_trans ((Nat.le_trans ((Nat.le_trans ((Nat.le_trans ((Nat.le_trans (hu411.out.size) hu417.out.size)) hu423.out.size)) hu429.out.size)) hu437.out.size)) lbb438.out) hs442.out)).cell (o := 1) rfl
  have cl2 := (h298.up ((((((hu411.out.trans hu417.out).trans hu423.out).trans hu429.out).trans hu437.out).trans hu440.out).sto (Nat.le_trans ((Nat.le_trans ((Nat.le_trans ((Nat.le_trans ((Nat.le_trans (hu411.out.size) hu417.out.size)) hu423.out.size)) hu429.out.size)) hu437.out.size)) lbb438.out) hs442.out)).cell (o := 2) rfl
  refine wpp fun K_ h_ => ?_; go_simp; refine h_ _ _ ?_; clear h_ K_
  clear cl0 cl1 cl2
  refine step_call (wanted_none rfl) (by go_simp <;> rfl) (impl_ArePerpendicular.calls K t11 t12 t431 t432 t433 t137 t138 t139 t445 t446 w441  A447.out) ?_
  rintro e w448 ⟨rfl, hu⟩
  have hu449 := Aside0.mk hu
  clear hu
  refine ⟨_, rfl, ?_⟩
  simp only [Act.put, nm1, nm2, nm3, i64_w]
  refine wpp fun K_ h_ => ?_; go_simp; refine h_ _ _ ?_; clear h_ K_
  refine wpp fun K_ h_ => ?_; go_simp; refine h_ _ _ ?_; clear h_ K_
  refine wpp fun K_ h_ => ?_; go_simp; refine h_ _ _ ?_; clear h_ K_
  refine wpp fun K_ h_ => ?_; go_simp; refine h_ _ _ ?_; clear h_ K_
  refine wpp fun K_ h_ => ?_; go_simp; refine h_ _ _ ?_; clear h_ K_
  refine wpList_nil ?_
  (try simp only [Exit.then, Exit.inBlock, ↓reduceIte, Nat.reduceEqDiff])
  refine hK444 _ _ ?_
  refine wp_seq_k (fun K450 hK450 => ?_)
  refine wp_region_lit ?_
  refine wpp fun K_ h_ => ?_; go_simp; refine h_ _ _ ?_; clear h_ K_
  refine wpp fun K_ h_ => ?_; go_simp; refine h_ _ _ ?_; clear h_ K_
  refine wpp fun K_ h_ => ?_; go_simp; refine h_ _ _ ?_; clear h_ K_
  have hm452 := Aside0.mk ((((((((hm289.out.trans hu411.out).trans hu417.out).trans hu423.out).trans hu429.out).trans hu437.out).trans hu440.out).sto (Nat.le_trans ((Nat.le_trans ((Nat.le_trans ((Nat.le_trans ((Nat.le_trans ((Nat.le_trans (hm290.out) hu411.out.size)) hu417.out.size)) hu423.out.size)) hu429.out.size)) hu437.out.size)) lbb438.out) hs442.out).trans hu449.out)
  have hm453 := Aside0.mk (Nat.le_trans ((Nat.le_trans ((Nat.le_trans ((Nat.le_trans ((Nat.le_trans ((Nat.le_trans ((Nat.le_trans ((Nat.le_trans (hm290.out) hu411.out.size)) hu417.out.size)) hu423.out.size)) hu429.out.size)) hu437.out.size)) hu440.out.size)) (Nat.le_of_eq hs442.out.size.symm))) hu449.out.size)
  have h454 := (h291.up (((((((hu411.out.trans hu417.out).trans hu423.out).trans hu429.out).trans hu437.out).trans hu440.out).sto (Nat.le_trans ((Nat.le_trans ((Nat.le_trans ((Nat.le_trans ((Nat.le_trans (hu411.out.size) hu417.out.size)) hu423.out.size)) hu429.out.size)) hu437.out.size)) lbb438.out) hs442.out).trans hu449.out))
  have h455 := (h292.up (((((((hu411.out.trans hu417.out).trans hu423.out).trans hu429.out).trans hu437.out).trans hu440.out).sto (Nat.le_trans ((Nat.le_trans ((Nat.le_trans ((Nat.le_trans ((Nat.le_trans (hu411.out.size) hu417.out.size)) hu423.out.size)) hu429.out.size)) hu437.out.size)) lbb438.out) hs442.out).trans hu449.out))
  have h456 := (h293.up (((((((hu411.out.trans hu417.out).trans hu423.out).trans hu429.out).trans hu437.out).trans hu440.out).sto (Nat.le_trans ((Nat.le_trans ((Nat.le_trans ((Nat.le_trans ((Nat.le_trans (hu411.out.size) hu417.out.size)) hu423.out.size)) hu429.out.size)) hu437.out.size)) lbb438.out) hs442.out).trans hu449.out))
  have h457 := (h294.up (((((((hu411.out.trans hu417.out).trans hu423.out).trans hu429.out).trans hu437.out).trans hu440.out).sto (Nat.le_trans ((Nat.le_trans ((Nat.le_trans ((Nat.le_trans ((Nat.le_trans (hu411.out.size) hu417.out.size)) hu423.out.size)) hu429.out.size)) hu437.out.size)) lbb438.out) hs442.out).trans hu449.out))
  have h458 := (h295.up (((((((hu411.out.trans hu417.out).trans hu423.out).trans hu429.out).trans hu437.out).trans hu440.out).sto (Nat.le_trans ((Nat.le_trans ((Nat.le_trans ((Nat.le_trans ((Nat.le_trans (hu411.out.size) hu417.out.size)) hu423.out.size)) hu429.out.size)) hu437.out.size)) lbb438.out) hs442.out).trans hu449.out))
  have h459 := (h296.up (((((((hu411.out.trans hu417.out).trans hu423.out).trans hu429.out).trans hu437.out).trans hu440.out).sto (Nat.le_trans ((Nat.le_trans ((Nat.le_trans ((Nat.le_trans ((Nat.le_trans (hu411.out.size) hu417.out.size)) hu423.out.size)) hu429.out.size)) hu437.out.size)) lbb438.out) hs442.out).trans hu449.out))
  have h460 := (h297.up (((((((hu411.out.trans hu417.out).trans hu423.out).trans hu429.out).trans hu437.out).trans hu440.out).sto (Nat.le_trans ((Nat.le_trans ((Nat.le_trans ((Nat.le_trans ((Nat.le_trans (hu411.out.size) hu417.out.size)) hu423.out.size)) hu429.out.size)) hu437.out.size)) lbb438.out) hs442.out).trans hu449.out))
  have h461 := (h298.up (((((((hu411.out.trans hu417.out).trans hu423.out).trans hu429.out).trans hu437.out).trans hu440.out).sto (Nat.le_trans ((Nat.le_trans ((Nat.le_trans ((Nat.le_trans ((Nat.le_trans (hu411.out.size) hu417.out.size)) hu423.out.size)) hu429.out.size)) hu437.out.size)) lbb438.out) hs442.out).trans hu449.out))
  have h462 := (h299.up (((((((hu411.out.trans hu417.out).trans hu423.out).trans hu429.out).trans hu437.out).trans hu440.out).sto (Nat.le_trans ((Nat.le_trans ((Nat.le_trans ((Nat.le_trans ((Nat.le_trans (hu411.out.size) hu417.out.size)) hu423.out.size)) hu429.out.size)) hu437.out.size)) lbb438.out) hs442.out).trans hu449.out))
  have h463 := (h300.up (((((((hu411.out.trans hu417.out).trans hu423.out).trans hu429.out).trans hu437.out).trans hu440.out).sto (Nat.le_trans ((Nat.le_trans ((Nat.le_trans ((Nat.le_trans ((Nat.le_trans (hu411.out.size) hu417.out.size)) hu423.out.size)) hu429.out.size)) hu437.out.size)) lbb438.out) hs442.out).trans hu449.out))
  have h464 := (h301.up (((((((hu411.out.trans hu417.out).trans hu423.out).trans hu429.out).trans hu437.out).trans hu440.out).sto (Nat.le_trans ((Nat.le_trans ((Nat.le_trans ((Nat.le_trans ((Nat.le_trans (hu411.out.size) hu417.out.size)) hu423.out.size)) hu429.out.size)) hu437.out.size)) lbb438.out) hs442.out).trans hu449.out))
  have h465 := (h302.up (((((((hu411.out.trans hu417.out).trans hu423.out).trans hu429.out).trans hu437.out).trans hu440.out).sto (Nat.le_trans ((Nat.le_trans ((Nat.le_trans ((Nat.le_trans ((Nat.le_trans (hu411.out.size) hu417.out.size)) hu423.out.size)) hu429.out.size)) hu437.out.size)) lbb438.out) hs442.out).trans hu449.out))
  have h466 := (h303.up (((((((hu411.out.trans hu417.out).trans hu423.out).trans hu429.out).trans hu437.out).trans hu440.out).sto (Nat.le_trans ((Nat.le_trans ((Nat.le_trans ((Nat.le_trans ((Nat.le_trans (hu411.out.size) hu417.out.size)) hu423.out.size)) hu429.out.size)) hu437.out.size)) lbb438.out) hs442.out).trans hu449.out))
  have h467 := (h304.up (((((((hu411.out.trans hu417.out).trans hu423.out).trans hu429.out).trans hu437.out).trans hu440.out).sto (Nat.le_trans ((Nat.le_trans ((Nat.le_trans ((Nat.le_trans ((Nat.le_trans (hu411.out.size) hu417.out.size)) hu423.out.size)) hu429.out.size)) hu437.out.size)) lbb438.out) hs442.out).trans hu449.out))
  have h468 := (h305.up (((((((hu411.out.trans hu417.out).trans hu423.out).trans hu429.out).trans hu437.out).trans hu440.out).sto (Nat.le_trans ((Nat.le_trans ((Nat.le_trans ((Nat.le_trans ((Nat.le_trans (hu411.out.size) hu417.out.size)) hu423.out.size)) hu429.out.size)) hu437.out.size)) lbb438.out) hs442.out).trans hu449.out))
  have h469 := (hb286.up (((((((hu411.out.trans hu417.out).trans hu423.out).trans hu429.out).trans hu437.out).trans hu440.out).sto (Nat.le_trans ((Nat.le_trans ((Nat.le_trans ((Nat.le_trans ((Nat.le_trans (hu411.out.size) hu417.out.size)) hu423.out.size)) hu429.out.size)) hu437.out.size)) lbb438.out) hs442.out).trans hu449.out))
  by_cases c451 : (t140 == 0) = true
  rotate_left
  ·
   rw [if_neg c451] at H; replace c451 := Bool.eq_false_iff.mpr c451
   have c451n : (t140 != 0) = true := by rw [bne, c451]; rfl
   have c451p : ¬ t140 = 0 := fun e => by simp [e] at c451
   obtain rfl := Option.some.inj H
   try simp only [c451, c451n, Bool.not_true, Bool.not_false]
   refine step_no rfl ?_
   simp only [Act.put, nm1, nm2, nm3, i64_w]
   refine step_no rfl ?_
   simp only [Act.put, nm1, nm2, nm3, i64_w]
   refine wpp fun K_ h_ => ?_; go_simp; refine h_ _ _ ?_; clear h_ K_
   refine wpp fun K_ h_ => ?_; go_simp; refine h_ _ _ ?_; clear h_ K_
   refine step_no rfl ?_
   simp only [Act.put, nm1, nm2, nm3, i64_w]
   refine wpp fun K_ h_ => ?_; go_simp; refine h_ _ _ ?_; clear h_ K_
   refine wpp fun K_ h_ => ?_; go_simp; refine h_ _ _ ?_; clear h_ K_
   refine step_no rfl ?_
   simp only [Act.put, nm1, nm2, nm3, i64_w]
   refine step_no rfl ?_
   simp only [Act.put, nm1, nm2, nm3, i64_w]
   refine wpp fun K_ h_ => ?_; go_simp; refine h_ _ _ ?_; clear h_ K_
   refine wpp fun K_ h_ => ?_; go_simp; refine h_ _ _ ?_; clear h_ K_
   refine step_no rfl ?_
   simp only [Act.put, nm1, nm2, nm3, i64_w]
   refine step_no rfl ?_
   simp only [Act.put, nm1, nm2, nm3, i64_w]
   refine wpp fun K_ h_ => ?_; go_simp; refine h_ _ _ ?_; clear h_ K_
   refine wpp fun K_ h_ => ?_; go_simp; refine h_ _ _ ?_; clear h_ K_
   refine step_no rfl ?_
   simp only [Act.put, nm1, nm2, nm3, i64_w]
   refine step_no rfl ?_
   simp only [Act.put, nm1, nm2, nm3, i64_w]
   refine wpp fun K_ h_ => ?_; go_simp; refine h_ _ _ ?_; clear h_ K_
   refine wpp fun K_ h_ => ?_; go_simp; refine h_ _ _ ?_; clear h_ K_
   refine step_no rfl ?_
   simp only [Act.put, nm1, nm2, nm3, i64_w]
   refine step_no rfl ?_
   simp only [Act.put, nm1, nm2, nm3, i64_w]
   refine step_no rfl ?_
   simp only [Act.put, nm1, nm2, nm3, i64_w]
   refine wpp fun K_ h_ => ?_; go_simp; refine h_ _ _ ?_; clear h_ K_
   refine wpp fun K_ h_ => ?_; go_simp; refine h_ _ _ ?_; clear h_ K_
   refine step_no rfl ?_
   simp only [Act.put, nm1, nm2, nm3, i64_w]
   refine step_no rfl ?_
   simp only [Act.put, nm1, nm2, nm3, i64_w]
   refine step_no rfl ?_
   simp only [Act.put, nm1, nm2, nm3, i64_w]
   refine wpp fun K_ h_ => ?_; go_simp; refine h_ _ _ ?_; clear h_ K_
   refine wpp fun K_ h_ => ?_; go_simp; refine h_ _ _ ?_; clear h_ K_
   refine step_no rfl ?_
   simp only [Act.put, nm1, nm2, nm3, i64_w]
   refine step_no rfl ?_
   simp only [Act.put, nm1, nm2, nm3, i64_w]
   refine step_no rfl ?_
   simp only [Act.put, nm1, nm2, nm3, i64_w]
   refine wpp fun K_ h_ => ?_; go_simp; refine h_ _ _ ?_; clear h_ K_
   refine wpp fun K_ h_ => ?_; go_simp; refine h_ _ _ ?_; clear h_ K_
   refine step_no rfl ?_
   simp only [Act.put, nm1, nm2, nm3, i64_w]
   refine step_no rfl ?_
   simp only [Act.put, nm1, nm2, nm3, i64_w]
   refine wpp fun K_ h_ => ?_; go_simp; refine h_ _ _ ?_; clear h_ K_
   refine wpp fun K_ h_ => ?_; go_simp; refine h_ _ _ ?_; clear h_ K_
   refine step_no rfl ?_
   simp only [Act.put, nm1, nm2, nm3, i64_w]
   refine step_no rfl ?_
   simp only [Act.put, nm1, nm2, nm3, i64_w]
   refine wpp fun K_ h_ => ?_; go_simp; refine h_ _ _ ?_; clear h_ K_
   refine wpp fun K_ h_ => ?_; go_simp; refine h_ _ _ ?_; clear h_ K_
   refine step_no rfl ?_
   simp only [Act.put, nm1, nm2, nm3, i64_w]
   refine wpp fun K_ h_ => ?_; go_simp; refine h_ _ _ ?_; clear h_ K_
   refine wpp fun K_ h_ => ?_; go_simp; refine h_ _ _ ?_; clear h_ K_
   refine wpList_nil ?_
   (try simp only [Exit.then, Exit.inBlock, ↓reduceIte, Nat.reduceEqDiff])
   refine hK450 _ _ ?_
   as_aux_lemma =>
   refine wp_ret ?_
   (try simp only [Exit.then, Exit.inBlock, ↓reduceIte, Nat.reduceEqDiff])
   refine hQf _ _ _ ?_
   exact bodyPost_ret (v := .bool false) (by first | rfl | (simp [results, Try.results5, go_sem]; done) | (simp [results, Try.results5, go_sem]; rfl)) rfl ⟨rfl, hm452.out⟩
  rw [if_pos c451] at H
  have c451n : (t140 != 0) = false := by rw [bne, c451]; rfl
  try simp only [c451, c451n, Bool.not_true, Bool.not_false]
  refine wpList_step fun K_ h_ => ?_; go_simp; refine h_ _ _ ?_; clear h_ K_
  refine wpList_step fun K_ h_ => ?_; go_simp; refine h_ _ _ ?_; clear h_ K_
  refine wpp fun K_ h_ => ?_; go_simp; refine h_ _ _ ?_; clear h_ K_
  refine wpp fun K_ h_ => ?_; go_simp; refine h_ _ _ ?_; clear h_ K_
  by_cases c470 : (t408 == 0) = true
  rotate_left
  ·
   rw [if_neg c470] at H; replace c470 := Bool.eq_false_iff.mpr c470
   have c470n : (t408 != 0) = true := by rw [bne, c470]; rfl
   have c470p : ¬ t408 = 0 := fun e => by simp [e] at c470
   obtain rfl := Option.some.inj H
   try simp only [c470, c470n, Bool.not_true, Bool.not_false]
   refine step_no rfl ?_
   simp only [Act.put, nm1, nm2, nm3, i64_w]
   refine wpp fun K_ h_ => ?_; go_simp; refine h_ _ _ ?_; clear h_ K_
   refine wpp fun K_ h_ => ?_; go_simp; refine h_ _ _ ?_; clear h_ K_
   refine step_no rfl ?_
   simp only [Act.put, nm1, nm2, nm3, i64_w]
   refine step_no rfl ?_
   simp only [Act.put, nm1, nm2, nm3, i64_w]
   refine wpp fun K_ h_ => ?_; go_simp; refine h_ _ _ ?_; clear h_ K_
   refine wpp fun K_ h_ => ?_; go_simp; refine h_ _ _ ?_; clear h_ K_
   refine step_no rfl ?_
   simp only [Act.put, nm1, nm2, nm3, i64_w]
   refine step_no rfl ?_
   simp only [Act.put, nm1, nm2, nm3, i64_w]
   refine wpp fun K_ h_ => ?_; go_simp; refine h_ _ _ ?_; clear h_ K_
   refine wpp fun K_ h_ => ?_; go_simp; refine h_ _ _ ?_; clear h_ K_
   refine step_no rfl ?_
   simp only [Act.put, nm1, nm2, nm3, i64_w]
   refine step_no rfl ?_
   simp only [Act.put, nm1, nm2, nm3, i64_w]
   refine wpp fun K_ h_ => ?_; go_simp; refine h_ _ _ ?_; clear h_ K_
   refine wpp fun K_ h_ => ?_; go_simp; refine h_ _ _ ?_; clear h_ K_
   refine step_no rfl ?_
   simp only [Act.put, nm1, nm2, nm3, i64_w]
   refine step_no rfl ?_
   simp only [Act.put, nm1, nm2, nm3, i64_w]
   refine step_no rfl ?_
   simp only [Act.put, nm1, nm2, nm3, i64_w]
   refine wpp fun K_ h_ => ?_; go_simp; refine h_ _ _ ?_; clear h_ K_
   refine wpp fun K_ h_ => ?_; go_simp; refine h_ _ _ ?_; clear h_ K_
   refine step_no rfl ?_
   simp only [Act.put, nm1, nm2, nm3, i64_w]
   refine step_no rfl ?_
   simp only [Act.put, nm1, nm2, nm3, i64_w]
   refine step_no rfl ?_
   simp only [Act.put, nm1, nm2, nm3, i64_w]
   refine wpp fun K_ h_ => ?_; go_simp; refine h_ _ _ ?_; clear h_ K_
   refine wpp fun K_ h_ => ?_; go_simp; refine h_ _ _ ?_; clear h_ K_
   refine step_no rfl ?_
   simp only [Act.put, nm1, nm2, nm3, i64_w]
   refine step_no rfl ?_
   simp only [Act.put, nm1, nm2, nm3, i64_w]
   refine step_no rfl ?_
   simp only [Act.put, nm1, nm2, nm3, i64_w]
   refine wpp fun K_ h_ => ?_; go_simp; refine h_ _ _ ?_; clear h_ K_
   refine wpp fun K_ h_ => ?_; go_simp; refine h_ _ _ ?_; clear h_ K_
   refine step_no rfl ?_
   simp only [Act.put, nm1, nm2, nm3, i64_w]
   refine step_no rfl ?_
   simp only [Act.put, nm1, nm2, nm3, i64_w]
   refine wpp fun K_ h_ => ?_; go_simp; refine h_ _ _ ?_; clear h_ K_
   refine wpp fun K_ h_ => ?_; go_simp; refine h_ _ _ ?_; clear h_ K_
   refine step_no rfl ?_
   simp only [Act.put, nm1, nm2, nm3, i64_w]
   refine step_no rfl ?_
   simp only [Act.put, nm1, nm2, nm3, i64_w]
   refine wpp fun K_ h_ => ?_; go_simp; refine h_ _ _ ?_; clear h_ K_
   refine wpp fun K_ h_ => ?_; go_simp; refine h_ _ _ ?_; clear h_ K_
   refine step_no rfl ?_
   simp only [Act.put, nm1, nm2, nm3, i64_w]
   refine wpp fun K_ h_ => ?_; go_simp; refine h_ _ _ ?_; clear h_ K_
   refine wpp fun K_ h_ => ?_; go_simp; refine h_ _ _ ?_; clear h_ K_
   refine wpList_nil ?_
   (try simp only [Exit.then, Exit.inBlock, ↓reduceIte, Nat.reduceEqDiff])
   refine hK450 _ _ ?_
   as_aux_lemma =>
   refine wp_ret ?_
   (try simp only [Exit.then, Exit.inBlock, ↓reduceIte, Nat.reduceEqDiff])
   refine hQf _ _ _ ?_
   exact bodyPost_ret (v := .bool false) (by first | rfl | (simp [results, Try.results5, go_sem]; done) | (simp [results, Try.results5, go_sem]; rfl)) rfl ⟨rfl, hm452.out⟩
  rw [if_pos c470] at H
  have c470n : (t408 != 0) = false := by rw [bne, c470]; rfl
  try simp only [c470, c470n, Bool.not_true, Bool.not_false]
  refine wpList_step fun K_ h_ => ?_; go_simp; refine h_ _ _ ?_; clear h_ K_
  refine wpp fun K_ h_ => ?_; go_simp; refine h_ _ _ ?_; clear h_ K_
  refine wpp fun K_ h_ => ?_; go_simp; refine h_ _ _ ?_; clear h_ K_
  by_cases c471 : (t407) = true
  rotate_left
  ·
   rw [if_neg c471] at H; replace c471 := Bool.eq_false_iff.mpr c471
   subst c471
   obtain rfl := Option.some.inj H
   refine step_no rfl ?_
   simp only [Act.put, nm1, nm2, nm3, i64_w]
   refine step_no rfl ?_
   simp only [Act.put, nm1, nm2, nm3, i64_w]
   refine wpp fun K_ h_ => ?_; go_simp; refine h_ _ _ ?_; clear h_ K_
   refine wpp fun K_ h_ => ?_; go_simp; refine h_ _ _ ?_; clear h_ K_
   refine step_no rfl ?_
   simp only [Act.put, nm1, nm2, nm3, i64_w]
   refine step_no rfl ?_
   simp only [Act.put, nm1, nm2, nm3, i64_w]
   refine wpp fun K_ h_ => ?_; go_simp; refine h_ _ _ ?_; clear h_ K_
   refine wpp fun K_ h_ => ?_; go_simp; refine h_ _ _ ?_; clear h_ K_
   refine step_no rfl ?_
   simp only [Act.put, nm1, nm2, nm3, i64_w]
   refine step_no rfl ?_
   simp only [Act.put, nm1, nm2, nm3, i64_w]
   refine wpp fun K_ h_ => ?_; go_simp; refine h_ _ _ ?_; clear h_ K_
   refine wpp fun K_ h_ => ?_; go_simp; refine h_ _ _ ?_; clear h_ K_
   refine step_no rfl ?_
   simp only [Act.put, nm1, nm2, nm3, i64_w]
   refine step_no rfl ?_
   simp only [Act.put, nm1, nm2, nm3, i64_w]
   refine step_no rfl ?_
   simp only [Act.put, nm1, nm2, nm3, i64_w]
   refine wpp fun K_ h_ => ?_; go_simp; refine h_ _ _ ?_; clear h_ K_
   refine wpp fun K_ h_ => ?_; go_simp; refine h_ _ _ ?_; clear h_ K_
   refine step_no rfl ?_
   simp only [Act.put, nm1, nm2, nm3, i64_w]
   refine step_no rfl ?_
   simp only [Act.put, nm1, nm2, nm3, i64_w]
   refine step_no rfl ?_
   simp only [Act.put, nm1, nm2, nm3, i64_w]
   refine wpp fun K_ h_ => ?_; go_simp; refine h_ _ _ ?_; clear h_ K_
   refine wpp fun K_ h_ => ?_; go_simp; refine h_ _ _ ?_; clear h_ K_
   refine step_no rfl ?_
   simp only [Act.put, nm1, nm2, nm3, i64_w]
   refine step_no rfl ?_
   simp only [Act.put, nm1, nm2, nm3, i64_w]
   refine step_no rfl ?_
   simp only [Act.put, nm1, nm2, nm3, i64_w]
   refine wpp fun K_ h_ => ?_; go_simp; refine h_ _ _ ?_; clear h_ K_
   refine wpp fun K_ h_ => ?_; go_simp; refine h_ _ _ ?_; clear h_ K_
   refine step_no rfl ?_
   simp only [Act.put, nm1, nm2, nm3, i64_w]
   refine step_no rfl ?_
   simp only [Act.put, nm1, nm2, nm3, i64_w]
   refine wpp fun K_ h_ => ?_; go_simp; refine h_ _ _ ?_; clear h_ K_
   refine wpp fun K_ h_ => ?_; go_simp; refine h_ _ _ ?_; clear h_ K_
   refine step_no rfl ?_
   simp only [Act.put, nm1, nm2, nm3, i64_w]
   refine step_no rfl ?_
   simp only [Act.put, nm1, nm2, nm3, i64_w]
   refine wpp fun K_ h_ => ?_; go_simp; refine h_ _ _ ?_; clear h_ K_
   refine wpp fun K_ h_ => ?_; go_simp; refine h_ _ _ ?_; clear h_ K_
   refine step_no rfl ?_
   simp only [Act.put, nm1, nm2, nm3, i64_w]
   refine wpp fun K_ h_ => ?_; go_simp; refine h_ _ _ ?_; clear h_ K_
   refine wpp fun K_ h_ => ?_; go_simp; refine h_ _ _ ?_; clear h_ K_
   refine wpList_nil ?_
   (try simp only [Exit.then, Exit.inBlock, ↓reduceIte, Nat.reduceEqDiff])
   refine hK450 _ _ ?_
   refine wp_ret ?_
   (try simp only [Exit.then, Exit.inBlock, ↓reduceIte, Nat.reduceEqDiff])
   refine hQf _ _ _ ?_
   exact bodyPost_ret (v := .bool false) (by first | rfl | (simp [results, Try.results5, go_sem]; done) | (simp [results, Try.results5, go_sem]; rfl)) rfl ⟨rfl, hm452.out⟩
  rw [if_pos c471] at H
  subst c471
  refine wpList_step fun K_ h_ => ?_; go_simp; refine h_ _ _ ?_; clear h_ K_
  refine wpList_step fun K_ h_ => ?_; go_simp; refine h_ _ _ ?_; clear h_ K_
  refine wpp fun K_ h_ => ?_; go_simp; refine h_ _ _ ?_; clear h_ K_
  refine wpp fun K_ h_ => ?_; go_simp; refine h_ _ _ ?_; clear h_ K_
  by_cases c472 : (t414 == 0) = true
  rotate_left
  ·
   rw [if_neg c472] at H; replace c472 := Bool.eq_false_iff.mpr c472
   have c472n : (t414 != 0) = true := by rw [bne, c472]; rfl
   have c472p : ¬ t414 = 0 := fun e => by simp [e] at c472
   obtain rfl := Option.some.inj H
   try simp only [c472, c472n, Bool.not_true, Bool.not_false]
   refine step_no rfl ?_
   simp only [Act.put, nm1, nm2, nm3, i64_w]
   refine step_no rfl ?_
   simp only [Act.put, nm1, nm2, nm3, i64_w]
   refine wpp fun K_ h_ => ?_; go_simp; refine h_ _ _ ?_; clear h_ K_
   refine wpp fun K_ h_ => ?_; go_simp; refine h_ _ _ ?_; clear h_ K_
   refine step_no rfl ?_
   simp only [Act.put, nm1, nm2, nm3, i64_w]
   refine step_no rfl ?_
   simp only [Act.put, nm1, nm2, nm3, i64_w]
   refine wpp fun K_ h_ => ?_; go_simp; refine h_ _ _ ?_; clear h_ K_
   refine wpp fun K_ h_ => ?_; go_simp; refine h_ _ _ ?_; clear h_ K_
   refine step_no rfl ?_
   simp only [Act.put, nm1, nm2, nm3, i64_w]
   refine step_no rfl ?_
   simp only [Act.put, nm1, nm2, nm3, i64_w]
   refine step_no rfl ?_
   simp only [Act.put, nm1, nm2, nm3, i64_w]
   refine wpp fun K_ h_ => ?_; go_simp; refine h_ _ _ ?_; clear h_ K_
   refine wpp fun K_ h_ => ?_; go_simp; refine h_ _ _ ?_; clear h_ K_
   refine step_no rfl ?_
   simp only [Act.put, nm1, nm2, nm3, i64_w]
   refine step_no rfl ?_
   simp only [Act.put, nm1, nm2, nm3, i64_w]
   refine step_no rfl ?_
   simp only [Act.put, nm1, nm2, nm3, i64_w]
   refine wpp fun K_ h_ => ?_; go_simp; refine h_ _ _ ?_; clear h_ K_
   refine wpp fun K_ h_ => ?_; go_simp; refine h_ _ _ ?_; clear h_ K_
   refine step_no rfl ?_
   simp only [Act.put, nm1, nm2, nm3, i64_w]
   refine step_no rfl ?_
   simp only [Act.put, nm1, nm2, nm3, i64_w]
   refine step_no rfl ?_
   simp only [Act.put, nm1, nm2, nm3, i64_w]
   refine wpp fun K_ h_ => ?_; go_simp; refine h_ _ _ ?_; clear h_ K_
   refine wpp fun K_ h_ => ?_; go_simp; refine h_ _ _ ?_; clear h_ K_
   refine step_no rfl ?_
   simp only [Act.put, nm1, nm2, nm3, i64_w]
   refine step_no rfl ?_
   simp only [Act.put, nm1, nm2, nm3, i64_w]
   refine wpp fun K_ h_ => ?_; go_simp; refine h_ _ _ ?_; clear h_ K_
   refine wpp fun K_ h_ => ?_; go_simp; refine h_ _ _ ?_; clear h_ K_
   refine step_no rfl ?_
   simp only [Act.put, nm1, nm2, nm3, i64_w]
   refine step_no rfl ?_
   simp only [Act.put, nm1, nm2, nm3, i64_w]
   refine wpp fun K_ h_ => ?_; go_simp; refine h_ _ _ ?_; clear h_ K_
   refine wpp fun K_ h_ => ?_; go_simp; refine h_ _ _ ?_; clear h_ K_
   refine step_no rfl ?_
   simp only [Act.put, nm1, nm2, nm3, i64_w]
   refine wpp fun K_ h_ => ?_; go_simp; refine h_ _ _ ?_; clear h_ K_
   refine wpp fun K_ h_ => ?_; go_simp; refine h_ _ _ ?_; clear h_ K_
   refine wpList_nil ?_
   (try simp only [Exit.then, Exit.inBlock, ↓reduceIte, Nat.reduceEqDiff])
   refine hK450 _ _ ?_
   as_aux_lemma =>
   refine wp_ret ?_
   (try simp only [Exit.then, Exit.inBlock, ↓reduceIte, Nat.reduceEqDiff])
   refine hQf _ _ _ ?_
   exact bodyPost_ret (v := .bool false) (by first | rfl | (simp [results, Try.results5, go_sem]; done) | (simp [results, Try.results5, go_sem]; rfl)) rfl ⟨rfl, hm452.out⟩
  rw [if_pos c472] at H
  have c472n : (t414 != 0) = false := by rw [bne, c472]; rfl
  try simp only [c472, c472n, Bool.not_true, Bool.not_false]
  refine wpList_step fun K_ h_ => ?_; go_simp; refine h_ _ _ ?_; clear h_ K_
  refine wpList_step fun K_ h_ => ?_; go_simp; refine h_ _ _ ?_; clear h_ K_
  refine wpp fun K_ h_ => ?_; go_simp; refine h_ _ _ ?_; clear h_ K_
  refine wpp fun K_ h_ => ?_; go_simp; refine h_ _ _ ?_; clear h_ K_
  by_cases c473 : (t420 == 0) = true
  rotate_left
  ·
   rw [if_neg c473] at H; replace c473 := Bool.eq_false_iff.mpr c473
   have c473n : (t420 != 0) = true := by rw [bne, c473]; rfl
   have c473p : ¬ t420 = 0 := fun e => by simp [e] at c473
   obtain rfl := Option.some.inj H
   try simp only [c473, c473n, Bool.not_true, Bool.not_false]
   refine step_no rfl ?_
   simp only [Act.put, nm1, nm2, nm3, i64_w]
   refine step_no rfl ?_
   simp only [Act.put, nm1, nm2, nm3, i64_w]
   refine wpp fun K_ h_ => ?_; go_simp; refine h_ _ _ ?_; clear h_ K_
   refine wpp fun K_ h_ => ?_; go_simp; refine h_ _ _ ?_; clear h_ K_
   refine step_no rfl ?_
   simp only [Act.put, nm1, nm2, nm3, i64_w]
   refine step_no rfl ?_
   simp only [Act.put, nm1, nm2, nm3, i64_w]
   refine step_no rfl ?_
   simp only [Act.put, nm1, nm2, nm3, i64_w]
   refine wpp fun K_ h_ => ?_; go_simp; refine h_ _ _ ?_; clear h_ K_
   refine wpp fun K_ h_ => ?_; go_simp; refine h_ _ _ ?_; clear h_ K_
   refine step_no rfl ?_
   simp only [Act.put, nm1, nm2, nm3, i64_w]
   refine step_no rfl ?_
   simp only [Act.put, nm1, nm2, nm3, i64_w]
   refine step_no rfl ?_
   simp only [Act.put, nm1, nm2, nm3, i64_w]
   refine wpp fun K_ h_ => ?_; go_simp; refine h_ _ _ ?_; clear h_ K_
   refine wpp fun K_ h_ => ?_; go_simp; refine h_ _ _ ?_; clear h_ K_
   refine step_no rfl ?_
   simp only [Act.put, nm1, nm2, nm3, i64_w]
   refine step_no rfl ?_
   simp only [Act.put, nm1, nm2, nm3, i64_w]
   refine step_no rfl ?_
   simp only [Act.put, nm1, nm2, nm3, i64_w]
   refine wpp fun K_ h_ => ?_; go_simp; refine h_ _ _ ?_; clear h_ K_
   refine wpp fun K_ h_ => ?_; go_simp; refine h_ _ _ ?_; clear h_ K_
   refine step_no rfl ?_
   simp only [Act.put, nm1, nm2, nm3, i64_w]
   refine step_no rfl ?_
   simp only [Act.put, nm1, nm2, nm3, i64_w]
   refine wpp fun K_ h_ => ?_; go_simp; refine h_ _ _ ?_; clear h_ K_
   refine wpp fun K_ h_ => ?_; go_simp; refine h_ _ _ ?_; clear h_ K_
   refine step_no rfl ?_
   simp only [Act.put, nm1, nm2, nm3, i64_w]
   refine step_no rfl ?_
   simp only [Act.put, nm1, nm2, nm3, i64_w]
   refine wpp fun K_ h_ => ?_; go_simp; refine h_ _ _ ?_; clear h_ K_
   refine wpp fun K_ h_ => ?_; go_simp; refine h_ _ _ ?_; clear h_ K_
   refine step_no rfl ?_
   simp only [Act.put, nm1, nm2, nm3, i64_w]
   refine wpp fun K_ h_ => ?_; go_simp; refine h_ _ _ ?_; clear h_ K_
   refine wpp fun K_ h_ => ?_; go_simp; refine h_ _ _ ?_; clear h_ K_
   refine wpList_nil ?_
   (try simp only [Exit.then, Exit.inBlock, ↓reduceIte, Nat.reduceEqDiff])
   refine hK450 _ _ ?_
   refine wp_ret ?_
   (try simp only [Exit.then, Exit.inBlock, ↓reduceIte, Nat.reduceEqDiff])
   refine hQf _ _ _ ?_
   exact bodyPost_ret (v := .bool false) (by first | rfl | (simp [results, Try.results5, go_sem]; done) | (simp [results, Try.results5, go_sem]; rfl)) rfl ⟨rfl, hm452.out⟩
  rw [if_pos c473] at H
  have c473n : (t420 != 0) = false := by rw [bne, c473]; rfl
  try simp only [c473, c473n, Bool.not_true, Bool.not_false]
  refine wpList_step fun K_ h_ => ?_; go_simp; refine h_ _ _ ?_; clear h_ K_
  refine wpList_step fun K_ h_ => ?_; go_simp; refine h_ _ _ ?_; clear h_ K_
  refine wpp fun K_ h_ => ?_; go_simp; refine h_ _ _ ?_; clear h_ K_
  refine wpp fun K_ h_ => ?_; go_simp; refine h_ _ _ ?_; clear h_ K_
  by_cases c474 : (t426 == 0) = true
  rotate_left
  ·
   rw [if_neg c474] at H; replace c474 := Bool.eq_false_iff.mpr c474
   have c474n : (t426 != 0) = true := by rw [bne, c474]; rfl
   have c474p : ¬ t426 = 0 := fun e => by simp [e] at c474
   obtain rfl := Option.some.inj H
   try simp only [c474, c474n, Bool.not_true, Bool.not_false]
   refine step_no rfl ?_
   simp only [Act.put, nm1, nm2, nm3, i64_w]
   refine step_no rfl ?_
   simp only [Act.put, nm1, nm2, nm3, i64_w]
   refine step_no rfl ?_
   simp only [Act.put, nm1, nm2, nm3, i64_w]
   refine wpp fun K_ h_ => ?_; go_simp; refine h_ _ _ ?_; clear h_ K_
   refine wpp fun K_ h_ => ?_; go_simp; refine h_ _ _ ?_; clear h_ K_
   refine step_no rfl ?_
   simp only [Act.put, nm1, nm2, nm3, i64_w]
   refine step_no rfl ?_
   simp only [Act.put, nm1, nm2, nm3, i64_w]
   refine step_no rfl ?_
   simp only [Act.put, nm1, nm2, nm3, i64_w]
   refine wpp fun K_ h_ => ?_; go_simp; refine h_ _ _ ?_; clear h_ K_
   refine wpp fun K_ h_ => ?_; go_simp; refine h_ _ _ ?_; clear h_ K_
   refine step_no rfl ?_
   simp only [Act.put, nm1, nm2, nm3, i64_w]
   refine step_no rfl ?_
   simp only [Act.put, nm1, nm2, nm3, i64_w]
   refine step_no rfl ?_
   simp only [Act.put, nm1, nm2, nm3, i64_w]
   refine wpp fun K_ h_ => ?_; go_simp; refine h_ _ _ ?_; clear h_ K_
   refine wpp fun K_ h_ => ?_; go_simp; refine h_ _ _ ?_; clear h_ K_
   refine step_no rfl ?_
   simp only [Act.put, nm1, nm2, nm3, i64_w]
   refine step_no rfl ?_
   simp only [Act.put, nm1, nm2, nm3, i64_w]
   refine wpp fun K_ h_ => ?_; go_simp; refine h_ _ _ ?_; clear h_ K_
   refine wpp fun K_ h_ => ?_; go_simp; refine h_ _ _ ?_; clear h_ K_
   refine step_no rfl ?_
   simp only [Act.put, nm1, nm2, nm3, i64_w]
   refine step_no rfl ?_
   simp only [Act.put, nm1, nm2, nm3, i64_w]
   refine wpp fun K_ h_ => ?_; go_simp; refine h_ _ _ ?_; clear h_ K_
   refine wpp fun K_ h_ => ?_; go_simp; refine h_ _ _ ?_; clear h_ K_
   refine step_no rfl ?_
   simp only [Act.put, nm1, nm2, nm3, i64_w]
   refine wpp fun K_ h_ => ?_; go_simp; refine h_ _ _ ?_; clear h_ K_
   refine wpp fun K_ h_ => ?_; go_simp; refine h_ _ _ ?_; clear h_ K_
   refine wpList_nil ?_
   (try simp only [Exit.then, Exit.inBlock, ↓reduceIte, Nat.reduceEqDiff])
   refine hK450 _ _ ?_
   as_aux_lemma =>
   refine wp_ret ?_
   (try simp only [Exit.then, Exit.inBlock, ↓reduceIte, Nat.reduceEqDiff])
   refine hQf _ _ _ ?_
   exact bodyPost_ret (v := .bool false) (by first | rfl | (simp [results, Try.results5, go_sem]; done) | (simp [results, Try.results5, go_sem]; rfl)) rfl ⟨rfl, hm452.out⟩
  rw [if_pos c474] at H
  have c474n : (t426 != 0) = false := by rw [bne, c474]; rfl
  try simp only [c474, c474n, Bool.not_true, Bool.not_false]
  refine wpList_step fun K_ h_ => ?_; go_simp; refine h_ _ _ ?_; clear h_ K_
  refine wpList_step fun K_ h_ => ?_; go_simp; refine h_ _ _ ?_; clear h_ K_
  refine wpList_step fun K_ h_ => ?_; go_simp; refine h_ _ _ ?_; clear h_ K_
  refine wpp fun K_ h_ => ?_; go_simp; refine h_ _ _ ?_; clear h_ K_
  refine wpp fun K_ h_ => ?_; go_simp; refine h_ _ _ ?_; clear h_ K_
  by_cases c475 : (t413 == t121) = true
  rotate_left
  ·
   rw [if_neg c475] at H; replace c475 := Bool.eq_false_iff.mpr c475
   have c475n : (t413 != t121) = true := by rw [bne, c475]; rfl
   have c475p : ¬ t413 = t121 := fun e => by simp [e] at c475
   obtain rfl := Option.some.inj H
   try simp only [c475, c475n, Bool.not_true, Bool.not_false]
   refine step_no rfl ?_
   simp only [Act.put, nm1, nm2, nm3, i64_w]
   refine step_no rfl ?_
   simp only [Act.put, nm1, nm2, nm3, i64_w]
   refine step_no rfl ?_
   simp only [Act.put, nm1, nm2, nm3, i64_w]
   refine wpp fun K_ h_ => ?_; go_simp; refine h_ _ _ ?_; clear h_ K_
   refine wpp fun K_ h_ => ?_; go_simp; refine h_ _ _ ?_; clear h_ K_
   refine step_no rfl ?_
   simp only [Act.put, nm1, nm2, nm3, i64_w]
   refine step_no rfl ?_
   simp only [Act.put, nm1, nm2, nm3, i64_w]
   refine step_no rfl ?_
   simp only [Act.put, nm1, nm2, nm3, i64_w]
   refine wpp fun K_ h_ => ?_; go_simp; refine h_ _ _ ?_; clear h_ K_
   refine wpp fun K_ h_ => ?_; go_simp; refine h_ _ _ ?_; clear h_ K_
   refine step_no rfl ?_
   simp only [Act.put, nm1, nm2, nm3, i64_w]
   refine step_no rfl ?_
   simp only [Act.put, nm1, nm2, nm3, i64_w]
   refine wpp fun K_ h_ => ?_; go_simp; refine h_ _ _ ?_; clear h_ K_
   refine wpp fun K_ h_ => ?_; go_simp; refine h_ _ _ ?_; clear h_ K_
   refine step_no rfl ?_
   simp only [Act.put, nm1, nm2, nm3, i64_w]
   refine step_no rfl ?_
   simp only [Act.put, nm1, nm2, nm3, i64_w]
   refine wpp fun K_ h_ => ?_; go_simp; refine h_ _ _ ?_; clear h_ K_
   refine wpp fun K_ h_ => ?_; go_simp; refine h_ _ _ ?_; clear h_ K_
   refine step_no rfl ?_
   simp only [Act.put, nm1, nm2, nm3, i64_w]
   refine wpp fun K_ h_ => ?_; go_simp; refine h_ _ _ ?_; clear h_ K_
   refine wpp fun K_ h_ => ?_; go_simp; refine h_ _ _ ?_; clear h_ K_
   refine wpList_nil ?_
   (try simp only [Exit.then, Exit.inBlock, ↓reduceIte, Nat.reduceEqDiff])
   refine hK450 _ _ ?_
   refine wp_ret ?_
   (try simp only [Exit.then, Exit.inBlock, ↓reduceIte, Nat.reduceEqDiff])
   refine hQf _ _ _ ?_
   exact bodyPost_ret (v := .bool false) (by first | rfl | (simp [results, Try.results5, go_sem]; done) | (simp [results, Try.results5, go_sem]; rfl)) rfl ⟨rfl, hm452.out⟩
  rw [if_pos c475] at H
  have c475n : (t413 != t121) = false := by rw [bne, c475]; rfl
  try simp only [c475, c475n, Bool.not_true, Bool.not_false]
  refine wpList_step fun K_ h_ => ?_; go_simp; refine h_ _ _ ?_; clear h_ K_
  refine wpList_step fun K_ h_ => ?_; go_simp; refine h_ _ _ ?_; clear h_ K_
  refine wpList_step fun K_ h_ => ?_; go_simp; refine h_ _ _ ?_; clear h_ K_
  refine wpp fun K_ h_ => ?_; go_simp; refine h_ _ _ ?_; clear h_ K_
  refine wpp fun K_ h_ => ?_; go_simp; refine h_ _ _ ?_; clear h_ K_
  by_cases c476 : (t419 == t121) = true
  rotate_left
  ·
   rw [if_neg c476] at H; replace c476 := Bool.eq_false_iff.mpr c476
   have c476n : (t419 != t121) = true := by rw [bne, c476]; rfl
   have c476p : ¬ t419 = t121 := fun e => by simp [e] at c476
   obtain rfl := Option.some.inj H
   try simp only [c476, c476n, Bool.not_true, Bool.not_false]
   refine step_no rfl ?_
   simp only [Act.put, nm1, nm2, nm3, i64_w]
   refine step_no rfl ?_
   simp only [Act.put, nm1, nm2, nm3, i64_w]
   refine step_no rfl ?_
   simp only [Act.put, nm1, nm2, nm3, i64_w]
   refine wpp fun K_ h_ => ?_; go_simp; refine h_ _ _ ?_; clear h_ K_
   refine wpp fun K_ h_ => ?_; go_simp; refine h_ _ _ ?_; clear h_ K_
   refine step_no rfl ?_
   simp only [Act.put, nm1, nm2, nm3, i64_w]
   refine step_no rfl ?_
   simp only [Act.put, nm1, nm2, nm3, i64_w]
   refine wpp fun K_ h_ => ?_; go_simp; refine h_ _ _ ?_; clear h_ K_
   refine wpp fun K_ h_ => ?_; go_simp; refine h_ _ _ ?_; clear h_ K_
   refine step_no rfl ?_
   simp only [Act.put, nm1, nm2, nm3, i64_w]
   refine step_no rfl ?_
   simp only [Act.put, nm1, nm2, nm3, i64_w]
   refine wpp fun K_ h_ => ?_; go_simp; refine h_ _ _ ?_; clear h_ K_
   refine wpp fun K_ h_ => ?_; go_simp; refine h_ _ _ ?_; clear h_ K_
   refine step_no rfl ?_
   simp only [Act.put, nm1, nm2, nm3, i64_w]
   refine wpp fun K_ h_ => ?_; go_simp; refine h_ _ _ ?_; clear h_ K_
   refine wpp fun K_ h_ => ?_; go_simp; refine h_ _ _ ?_; clear h_ K_
   refine wpList_nil ?_
   (try simp only [Exit.then, Exit.inBlock, ↓reduceIte, Nat.reduceEqDiff])
   refine hK450 _ _ ?_
   as_aux_lemma =>
   refine wp_ret ?_
   (try simp only [Exit.then, Exit.inBlock, ↓reduceIte, Nat.reduceEqDiff])
   refine hQf _ _ _ ?_
   exact bodyPost_ret (v := .bool false) (by first | rfl | (simp [results, Try.results5, go_sem]; done) | (simp [results, Try.results5, go_sem]; rfl)) rfl ⟨rfl, hm452.out⟩
  rw [if_pos c476] at H
  have c476n : (t419 != t121) = false := by rw [bne, c476]; rfl
  try simp only [c476, c476n, Bool.not_true, Bool.not_false]
  refine wpList_step fun K_ h_ => ?_; go_simp; refine h_ _ _ ?_; clear h_ K_
  refine wpList_step fun K_ h_ => ?_; go_simp; refine h_ _ _ ?_; clear h_ K_
  refine wpList_step fun K_ h_ => ?_; go_simp; refine h_ _ _ ?_; clear h_ K_
  refine wpp fun K_ h_ => ?_; go_simp; refine h_ _ _ ?_; clear h_ K_
  refine wpp fun K_ h_ => ?_; go_simp; refine h_ _ _ ?_; clear h_ K_
  by_cases c477 : (t425 == t121) = true
  rotate_left
  ·
   rw [if_neg c477] at H; replace c477 := Bool.eq_false_iff.mpr c477
   have c477n : (t425 != t121) = true := by rw [bne, c477]; rfl
   have c477p : ¬ t425 = t121 := fun e => by simp [e] at c477
   obtain rfl := Option.some.inj H
   try simp only [c477, c477n, Bool.not_true, Bool.not_false]
   refine step_no rfl ?_
   simp only [Act.put, nm1, nm2, nm3, i64_w]
   refine step_no rfl ?_
   simp only [Act.put, nm1, nm2, nm3, i64_w]
   refine wpp fun K_ h_ => ?_; go_simp; refine h_ _ _ ?_; clear h_ K_
   refine wpp fun K_ h_ => ?_; go_simp; refine h_ _ _ ?_; clear h_ K_
   refine step_no rfl ?_
   simp only [Act.put, nm1, nm2, nm3, i64_w]
   refine step_no rfl ?_
   simp only [Act.put, nm1, nm2, nm3, i64_w]
   refine wpp fun K_ h_ => ?_; go_simp; refine h_ _ _ ?_; clear h_ K_
   refine wpp fun K_ h_ => ?_; go_simp; refine h_ _ _ ?_; clear h_ K_
   refine step_no rfl ?_
   simp only [Act.put, nm1, nm2, nm3, i64_w]
   refine wpp fun K_ h_ => ?_; go_simp; refine h_ _ _ ?_; clear h_ K_
   refine wpp fun K_ h_ => ?_; go_simp; refine h_ _ _ ?_; clear h_ K_
   refine wpList_nil ?_
   (try simp only [Exit.then, Exit.inBlock, ↓reduceIte, Nat.reduceEqDiff])
   refine hK450 _ _ ?_
   refine wp_ret ?_
   (try simp only [Exit.then, Exit.inBlock, ↓reduceIte, Nat.reduceEqDiff])
   refine hQf _ _ _ ?_
   exact bodyPost_ret (v := .bool false) (by first | rfl | (simp [results, Try.results5, go_sem]; done) | (simp [results, Try.results5, go_sem]; rfl)) rfl ⟨rfl, hm452.out⟩
  rw [if_pos c477] at H
  have c477n : (t425 != t121) = false := by rw [bne, c477]; rfl
  try simp only [c477, c477n, Bool.not_true, Bool.not_false]
  refine wpList_step fun K_ h_ => ?_; go_simp; refine h_ _ _ ?_; clear h_ K_
  refine wpList_step fun K_ h_ => ?_; go_simp; refine h_ _ _ ?_; clear h_ K_
  refine wpp fun K_ h_ => ?_; go_simp; refine h_ _ _ ?_; clear h_ K_
  refine wpp fun K_ h_ => ?_; go_simp; refine h_ _ _ ?_; clear h_ K_
  by_cases c478 : (t434 == 0) = true
  rotate_left
  ·
   rw [if_neg c478] at H; replace c478 := Bool.eq_false_iff.mpr c478
   have c478n : (t434 != 0) = true := by rw [bne, c478]; rfl
   have c478p : ¬ t434 = 0 := fun e => by simp [e] at c478
   obtain rfl := Option.some.inj H
   try simp only [c478, c478n, Bool.not_true, Bool.not_false]
   refine step_no rfl ?_
   simp only [Act.put, nm1, nm2, nm3, i64_w]
   refine step_no rfl ?_
   simp only [Act.put, nm1, nm2, nm3, i64_w]
   refine wpp fun K_ h_ => ?_; go_simp; refine h_ _ _ ?_; clear h_ K_
   refine wpp fun K_ h_ => ?_; go_simp; refine h_ _ _ ?_; clear h_ K_
   refine step_no rfl ?_
   simp only [Act.put, nm1, nm2, nm3, i64_w]
   refine wpp fun K_ h_ => ?_; go_simp; refine h_ _ _ ?_; clear h_ K_
   refine wpp fun K_ h_ => ?_; go_simp; refine h_ _ _ ?_; clear h_ K_
   refine wpList_nil ?_
   (try simp only [Exit.then, Exit.inBlock, ↓reduceIte, Nat.reduceEqDiff])
   refine hK450 _ _ ?_
   refine wp_ret ?_
   (try simp only [Exit.then, Exit.inBlock, ↓reduceIte, Nat.reduceEqDiff])
   refine hQf _ _ _ ?_
   exact bodyPost_ret (v := .bool false) (by first | rfl | (simp [results, Try.results5, go_sem]; done) | (simp [results, Try.results5, go_sem]; rfl)) rfl ⟨rfl, hm452.out⟩
  rw [if_pos c478] at H
  have c478n : (t434 != 0) = false := by rw [bne, c478]; rfl
  try simp only [c478, c478n, Bool.not_true, Bool.not_false]
  refine wpList_step fun K_ h_ => ?_; go_simp; refine h_ _ _ ?_; clear h_ K_
  refine wpList_step fun K_ h_ => ?_; go_simp; refine h_ _ _ ?_; clear h_ K_
  refine wpp fun K_ h_ => ?_; go_simp; refine h_ _ _ ?_; clear h_ K_
  refine wpp fun K_ h_ => ?_; go_simp; refine h_ _ _ ?_; clear h_ K_
  by_cases c479 : (t446 == 0) = true
  ·
   rw [if_pos c479] at H
   have c479n : (t446 != 0) = false := by rw [bne, c479]; rfl
   obtain rfl := Option.some.inj H
   try simp only [c479, c479n, Bool.not_true, Bool.not_false]
   refine wpList_step fun K_ h_ => ?_; go_simp; refine h_ _ _ ?_; clear h_ K_
   refine wpp fun K_ h_ => ?_; go_simp; refine h_ _ _ ?_; clear h_ K_
   refine wpp fun K_ h_ => ?_; go_simp; refine h_ _ _ ?_; clear h_ K_
   refine wpList_nil ?_
   (try simp only [Exit.then, Exit.inBlock, ↓reduceIte, Nat.reduceEqDiff])
   refine hK450 _ _ ?_
   as_aux_lemma =>
   refine wp_ret ?_
   (try simp only [Exit.then, Exit.inBlock, ↓reduceIte, Nat.reduceEqDiff])
   refine hQf _ _ _ ?_
   exact bodyPost_ret (v := .bool t445) (by first | rfl | (simp [results, Try.results5, go_sem]; done) | (simp [results, Try.results5, go_sem]; rfl)) rfl ⟨rfl, hm452.out⟩
  rw [if_neg c479] at H; replace c479 := Bool.eq_false_iff.mpr c479
  have c479n : (t446 != 0) = true := by rw [bne, c479]; rfl
  have c479p : ¬ t446 = 0 := fun e => by simp [e] at c479
  obtain rfl := Option.some.inj H
  try simp only [c479, c479n, Bool.not_true, Bool.not_false]
  refine step_no rfl ?_
  simp only [Act.put, nm1, nm2, nm3, i64_w]
  refine wpp fun K_ h_ => ?_; go_simp; refine h_ _ _ ?_; clear h_ K_
  refine wpp fun K_ h_ => ?_; go_simp; refine h_ _ _ ?_; clear h_ K_
  refine wpList_nil ?_
  (try simp only [Exit.then, Exit.inBlock, ↓reduceIte, Nat.reduceEqDiff])
  refine hK450 _ _ ?_
  refine wp_ret ?_
  (try simp only [Exit.then, Exit.inBlock, ↓reduceIte, Nat.reduceEqDiff])
  refine hQf _ _ _ ?_
  exact bodyPost_ret (v := .bool false) (by first | rfl | (simp [results, Try.results5, go_sem]; done) | (simp [results, Try.results5, go_sem]; rfl)) rfl ⟨rfl, hm452.out⟩
 rw [if_pos c309] at H
 have c309n : (t216 != 0) = false := by rw [bne, c309]; rfl
 replace H := Option.bind_eq_some_iff.mp H
 obtain ⟨⟨t311, t312⟩, A313, H⟩ := H
 replace A313 := Aside0.mk A313
 try dsimp only at H
 try simp only [c309, c309n, Bool.not_true, Bool.not_false]
 refine wp_cond_true rfl ?_
 refine wp_seq_k (fun K310 hK310 => ?_)
 refine wp_region_lit ?_
 refine wpp fun K_ h_ => ?_; go_simp; refine h_ _ _ ?_; clear h_ K_
 have cl0 := h303.cell (o := 0) rfl
 have cl1 := h303.cell (o := 1) rfl
 refine wpp fun K_ h_ => ?_; go_simp; refine h_ _ _ ?_; clear h_ K_
 clear cl0 cl1
 have cl0 := h305.cell (o := 0) rfl
 have cl1 := h305.cell (o := 1) rfl
 have cl2 := h305.cell (o := 2) rfl
 refine wpp fun K_ h_ => ?_; go_simp; refine h_ _ _ ?_; clear h_ K_
 clear cl0 cl1 cl2
 refine step_call (wanted_none rfl) (by go_simp <;> rfl) (impl_IsOnLine.calls K t179 t214 t215 t259 t260 t261 t311 t312 w284  A313.out) ?_
 rintro e w314 ⟨rfl, hu⟩
 have hu315 := Aside0.mk hu
 clear hu
 refine ⟨_, rfl, ?_⟩
 simp only [Act.put, nm1, nm2, nm3, i64_w]
 refine wpp fun K_ h_ => ?_; go_simp; refine h_ _ _ ?_; clear h_ K_
 refine wpp fun K_ h_ => ?_; go_simp; refine h_ _ _ ?_; clear h_ K_
 refine wpp fun K_ h_ => ?_; go_simp; refine h_ _ _ ?_; clear h_ K_
 refine wpp fun K_ h_ => ?_; go_simp; refine h_ _ _ ?_; clear h_ K_
 refine wpp fun K_ h_ => ?_; go_simp; refine h_ _ _ ?_; clear h_ K_
 refine wpList_nil ?_
 (try simp only [Exit.then, Exit.inBlock, ↓reduceIte, Nat.reduceEqDiff])
 refine hK310 _ _ ?_
 refine wp_seq_k (fun K316 hK316 => ?_)
 refine wp_region_lit ?_
 refine wpp fun K_ h_ => ?_; go_simp; refine h_ _ _ ?_; clear h_ K_
 refine wpp fun K_ h_ => ?_; go_simp; refine h_ _ _ ?_; clear h_ K_
 refine wpp fun K_ h_ => ?_; go_simp; refine h_ _ _ ?_; clear h_ K_
 by_cases c317 : (t262 == 0) = true
 rotate_left
 ·
  rw [if_neg c317] at H; replace c317 := Bool.eq_false_iff.mpr c317
  have c317n : (t262 != 0) = true := by rw [bne, c317]; rfl
  have c317p : ¬ t262 = 0 := fun e => by simp [e] at c317
  obtain rfl := Option.some.inj H
  try simp only [c317, c317n, Bool.not_true, Bool.not_false]
  refine step_no rfl ?_
  simp only [Act.put, nm1, nm2, nm3, i64_w]
  refine step_no rfl ?_
  simp only [Act.put, nm1, nm2, nm3, i64_w]
  refine wpp fun K_ h_ => ?_; go_simp; refine h_ _ _ ?_; clear h_ K_
  refine wpp fun K_ h_ => ?_; go_simp; refine h_ _ _ ?_; clear h_ K_
  refine step_no rfl ?_
  simp only [Act.put, nm1, nm2, nm3, i64_w]
  refine step_no rfl ?_
  simp only [Act.put, nm1, nm2, nm3, i64_w]
  refine wpp fun K_ h_ => ?_; go_simp; refine h_ _ _ ?_; clear h_ K_
  refine wpList_nil ?_
  (try simp only [Exit.then, Exit.inBlock, ↓reduceIte, Nat.reduceEqDiff])
  refine hK316 _ _ ?_
  as_aux_lemma =>
  refine wp_cond_true rfl ?_
  refine wp_seq_k (fun K402 hK402 => ?_)
  refine wp_region_lit ?_
  refine wpp fun K_ h_ => ?_; go_simp; refine h_ _ _ ?_; clear h_ K_
  refine wpList_nil ?_
  (try simp only [Exit.then, Exit.inBlock, ↓reduceIte, Nat.reduceEqDiff])
  refine hK402 _ _ ?_
  refine wp_ret ?_
  (try simp only [Exit.then, Exit.inBlock, ↓reduceIte, Nat.reduceEqDiff])
  refine hQf _ _ _ ?_
  exact bodyPost_ret (v := .bool false) (by first | rfl | (simp [results, Try.results5, go_sem]; done) | (simp [results, Try.results5, go_sem]; rfl)) rfl ⟨rfl, (hm289.out.trans hu315.out)⟩
 rw [if_pos c317] at H
 have c317n : (t262 != 0) = false := by rw [bne, c317]; rfl
 try simp only [c317, c317n, Bool.not_true, Bool.not_false]
 refine wpList_step fun K_ h_ => ?_; go_simp; refine h_ _ _ ?_; clear h_ K_
 refine wpList_step fun K_ h_ => ?_; go_simp; refine h_ _ _ ?_; clear h_ K_
 refine wpp fun K_ h_ => ?_; go_simp; refine h_ _ _ ?_; clear h_ K_
 refine wpp fun K_ h_ => ?_; go_simp; refine h_ _ _ ?_; clear h_ K_
 by_cases c318 : (t312 == 0) = true
 rotate_left
 ·
  rw [if_neg c318] at H; replace c318 := Bool.eq_false_iff.mpr c318
  have c318n : (t312 != 0) = true := by rw [bne, c318]; rfl
  have c318p : ¬ t312 = 0 := fun e => by simp [e] at c318
  obtain rfl := Option.some.inj H
  try simp only [c318, c318n, Bool.not_true, Bool.not_false]
  refine step_no rfl ?_
  simp only [Act.put, nm1, nm2, nm3, i64_w]
  refine step_no rfl ?_
  simp only [Act.put, nm1, nm2, nm3, i64_w]
  refine wpp fun K_ h_ => ?_; go_simp; refine h_ _ _ ?_; clear h_ K_
  refine wpList_nil ?_
  (try simp only [Exit.then, Exit.inBlock, ↓reduceIte, Nat.reduceEqDiff])
  refine hK316 _ _ ?_
  refine wp_cond_true rfl ?_
  refine wp_seq_k (fun K401 hK401 => ?_)
  refine wp_region_lit ?_
  refine wpp fun K_ h_ => ?_; go_simp; refine h_ _ _ ?_; clear h_ K_
  refine wpList_nil ?_
  (try simp only [Exit.then, Exit.inBlock, ↓reduceIte, Nat.reduceEqDiff])
  refine hK401 _ _ ?_
  refine wp_ret ?_
  (try simp only [Exit.then, Exit.inBlock, ↓reduceIte, Nat.reduceEqDiff])
  refine hQf _ _ _ ?_
  exact bodyPost_ret (v := .bool false) (by first | rfl | (simp [results, Try.results5, go_sem]; done) | (simp [results, Try.results5, go_sem]; rfl)) rfl ⟨rfl, (hm289.out.trans hu315.out)⟩
 rw [if_pos c318] at H
 have c318n : (t312 != 0) = false := by rw [bne, c318]; rfl
 try simp only [c318, c318n, Bool.not_true, Bool.not_false]
 refine wpList_step fun K_ h_ => ?_; go_simp; refine h_ _ _ ?_; clear h_ K_
 refine wpList_step fun K_ h_ => ?_; go_simp; refine h_ _ _ ?_; clear h_ K_
 refine wpp fun K_ h_ => ?_; go_simp; refine h_ _ _ ?_; clear h_ K_
 refine wpList_nil ?_
 (try simp only [Exit.then, Exit.inBlock, ↓reduceIte, Nat.reduceEqDiff])
 refine hK316 _ _ ?_
 by_cases c319 : (t311) = true
 rotate_left
 ·
  rw [if_neg c319] at H; replace c319 := Bool.eq_false_iff.mpr c319
  subst c319
  obtain rfl := Option.some.inj H
  refine wp_cond_true rfl ?_
  refine wp_seq_k (fun K400 hK400 => ?_)
  refine wp_region_lit ?_
  refine wpp fun K_ h_ => ?_; go_simp; refine h_ _ _ ?_; clear h_ K_
  refine wpList_nil ?_
  (try simp only [Exit.then, Exit.inBlock, ↓reduceIte, Nat.reduceEqDiff])
  refine hK400 _ _ ?_
  refine wp_ret ?_
  (try simp only [Exit.then, Exit.inBlock, ↓reduceIte, Nat.reduceEqDiff])
  refine hQf _ _ _ ?_
  exact bodyPost_ret (v := .bool false) (by first | rfl | (simp [results, Try.results5, go_sem]; done) | (simp [results, Try.results5, go_sem]; rfl)) rfl ⟨rfl, (hm289.out.trans hu315.out)⟩
 rw [if_pos c319] at H
 subst c319
 refine wp_cond_false rfl ?_
 refine wp_skip ?_
 (try simp only [Exit.then, Exit.inBlock, ↓reduceIte, Nat.reduceEqDiff])
 refine hK307 _ _ ?_
 refine wp_seq_k (fun K320 hK320 => ?_)
 refine wp_seq_k (fun K321 hK321 => ?_)
 refine wp_region_lit ?_
 refine wpp fun K_ h_ => ?_; go_simp; refine h_ _ _ ?_; clear h_ K_
 refine wpp fun K_ h_ => ?_; go_simp; refine h_ _ _ ?_; clear h_ K_
 refine wpList_nil ?_
 (try simp only [Exit.then, Exit.inBlock, ↓reduceIte, Nat.reduceEqDiff])
 refine hK321 _ _ ?_
 as_aux_lemma =>
 by_cases c322 : (t49 == 0) = true
 rotate_left
 ·
  rw [if_neg c322] at H; replace c322 := Bool.eq_false_iff.mpr c322
  have c322n : (t49 != 0) = true := by rw [bne, c322]; rfl
  have c322p : ¬ t49 = 0 := fun e => by simp [e] at c322
  try simp only [c322, c322n, Bool.not_true, Bool.not_false]
  refine wp_cond_true rfl ?_
  refine wp_seq_k (fun K397 hK397 => ?_)
  refine wp_region_lit ?_
  have cl0 := (h294.up hu315.out).cell (o := 0) rfl
  have cl1 := (h294.up hu315.out).cell (o := 1) rfl
  refine wpp fun K_ h_ => ?_; go_simp; refine h_ _ _ ?_; clear h_ K_
  clear cl0 cl1
  refine wpp fun K_ h_ => ?_; go_simp; refine h_ _ _ ?_; clear h_ K_
  refine wpp fun K_ h_ => ?_; go_simp; refine h_ _ _ ?_; clear h_ K_
  refine wpp fun K_ h_ => ?_; go_simp; refine h_ _ _ ?_; clear h_ K_
  by_cases c398 : (t47 == 0 && t48 == 0) = true
  rotate_left
  ·
   rw [if_neg c398] at H; replace c398 := Bool.eq_false_iff.mpr c398
   have c398n : (!t47 == 0 || !t48 == 0) = true := by simp only [← Bool.not_and, c398, Bool.not_true, Bool.not_false]
   obtain rfl := Option.some.inj H
   try simp only [c398, c398n, Bool.not_true, Bool.not_false]
   refine step_no rfl ?_
   simp only [Act.put, nm1, nm2, nm3, i64_w]
   refine step_no rfl ?_
   simp only [Act.put, nm1, nm2, nm3, i64_w]
   refine step_no rfl ?_
   simp only [Act.put, nm1, nm2, nm3, i64_w]
   refine wpp fun K_ h_ => ?_; go_simp; refine h_ _ _ ?_; clear h_ K_
   refine wpp fun K_ h_ => ?_; go_simp; refine h_ _ _ ?_; clear h_ K_
   refine step_no rfl ?_
   simp only [Act.put, nm1, nm2, nm3, i64_w]
   refine step_no rfl ?_
   simp only [Act.put, nm1, nm2, nm3, i64_w]
   refine step_no rfl ?_
   simp only [Act.put, nm1, nm2, nm3, i64_w]
   refine wpp fun K_ h_ => ?_; go_simp; refine h_ _ _ ?_; clear h_ K_
   refine wpp fun K_ h_ => ?_; go_simp; refine h_ _ _ ?_; clear h_ K_
   refine wpList_nil ?_
   (try simp only [Exit.then, Exit.inBlock, ↓reduceIte, Nat.reduceEqDiff])
   refine hK397 _ _ ?_
   refine wp_ret ?_
   (try simp only [Exit.then, Exit.inBlock, ↓reduceIte, Nat.reduceEqDiff])
   refine hQf _ _ _ ?_
   exact bodyPost_ret (v := .bool false) (by first | rfl | (simp [results, Try.results5, go_sem]; done) | (simp [results, Try.results5, go_sem]; rfl)) rfl ⟨rfl, (hm289.out.trans hu315.out)⟩
  rw [if_pos c398] at H
  have c398n : (!t47 == 0 || !t48 == 0) = false := by simp only [← Bool.not_and, c398, Bool.not_true, Bool.not_false]
  try simp only [c398, c398n, Bool.not_true, Bool.not_false]
  refine wpList_step fun K_ h_ => ?_; go_simp; refine h_ _ _ ?_; clear h_ K_
  refine wpList_step fun K_ h_ => ?_; go_simp; refine h_ _ _ ?_; clear h_ K_
  refine wpList_step fun K_ h_ => ?_; go_simp; refine h_ _ _ ?_; clear h_ K_
  refine wpp fun K_ h_ => ?_; go_simp; refine h_ _ _ ?_; clear h_ K_
  refine wpp fun K_ h_ => ?_; go_simp; refine h_ _ _ ?_; clear h_ K_
  by_cases c399 : (t85 == t49) = true
  ·
   rw [if_pos c399] at H
   have c399n : (t85 != t49) = false := by rw [bne, c399]; rfl
   obtain rfl := Option.some.inj H
   try simp only [c399, c399n, Bool.not_true, Bool.not_false]
   refine wpList_step fun K_ h_ => ?_; go_simp; refine h_ _ _ ?_; clear h_ K_
   refine wpList_step fun K_ h_ => ?_; go_simp; refine h_ _ _ ?_; clear h_ K_
   refine wpList_step fun K_ h_ => ?_; go_simp; refine h_ _ _ ?_; clear h_ K_
   refine wpp fun K_ h_ => ?_; go_simp; refine h_ _ _ ?_; clear h_ K_
   refine wpp fun K_ h_ => ?_; go_simp; refine h_ _ _ ?_; clear h_ K_
   refine wpList_nil ?_
   (try simp only [Exit.then, Exit.inBlock, ↓reduceIte, Nat.reduceEqDiff])
   refine hK397 _ _ ?_
   refine wp_ret ?_
   (try simp only [Exit.then, Exit.inBlock, ↓reduceIte, Nat.reduceEqDiff])
   refine hQf _ _ _ ?_
   exact bodyPost_ret (v := .bool (t122 == t49)) (by first | rfl | (simp [results, Try.results5, go_sem]; done) | (simp [results, Try.results5, go_sem]; rfl)) rfl ⟨rfl, (hm289.out.trans hu315.out)⟩
  rw [if_neg c399] at H; replace c399 := Bool.eq_false_iff.mpr c399
  have c399n : (t85 != t49) = true := by rw [bne, c399]; rfl
  have c399p : ¬ t85 = t49 := fun e => by simp [e] at c399
  obtain rfl := Option.some.inj H
  try simp only [c399, c399n, Bool.not_true, Bool.not_false]
  refine step_no rfl ?_
  simp only [Act.put, nm1, nm2, nm3, i64_w]
  refine step_no rfl ?_
  simp only [Act.put, nm1, nm2, nm3, i64_w]
  refine step_no rfl ?_
  simp only [Act.put, nm1, nm2, nm3, i64_w]
  refine wpp fun K_ h_ => ?_; go_simp; refine h_ _ _ ?_; clear h_ K_
  refine wpp fun K_ h_ => ?_; go_simp; refine h_ _ _ ?_; clear h_ K_
  refine wpList_nil ?_
  (try simp only [Exit.then, Exit.inBlock, ↓reduceIte, Nat.reduceEqDiff])
  refine hK397 _ _ ?_
  as_aux_lemma =>
  refine wp_ret ?_
  (try simp only [Exit.then, Exit.inBlock, ↓reduceIte, Nat.reduceEqDiff])
  refine hQf _ _ _ ?_
  exact bodyPost_ret (v := .bool false) (by first | rfl | (simp [results, Try.results5, go_sem]; done) | (simp [results, Try.results5, go_sem]; rfl)) rfl ⟨rfl, (hm289.out.trans hu315.out)⟩
 rw [if_pos c322] at H
 have c322n : (t49 != 0) = false := by rw [bne, c322]; rfl
 replace H := Option.bind_eq_some_iff.mp H
 obtain ⟨⟨t324, t325⟩, A326, H⟩ := H
 replace A326 := Aside0.mk A326
 try dsimp only at H
 replace H := Option.bind_eq_some_iff.mp H
 obtain ⟨⟨t330, t331⟩, A332, H⟩ := H
 replace A332 := Aside0.mk A332
 try dsimp only at H
 replace H := Option.bind_eq_some_iff.mp H
 obtain ⟨⟨t336, t337⟩, A338, H⟩ := H
 replace A338 := Aside0.mk A338
 try dsimp only at H
 replace H := Option.bind_eq_some_iff.mp H
 obtain ⟨⟨t342, t343⟩, A344, H⟩ := H
 replace A344 := Aside0.mk A344
 try dsimp only at H
 replace H := Option.bind_eq_some_iff.mp H
 obtain ⟨⟨t348, t349, t350, t351⟩, A352, H⟩ := H
 replace A352 := Aside0.mk A352
 try dsimp only at H
 replace H := Option.bind_eq_some_iff.mp H
 obtain ⟨⟨t362, t363⟩, A364, H⟩ := H
 replace A364 := Aside0.mk A364
 try dsimp only at H
 try simp only [c322, c322n, Bool.not_true, Bool.not_false]
 refine wp_cond_false rfl ?_
 refine wp_skip ?_
 (try simp only [Exit.then, Exit.inBlock, ↓reduceIte, Nat.reduceEqDiff])
 refine hK320 _ _ ?_
 refine wp_seq_k (fun K323 hK323 => ?_)
 refine wp_region_lit ?_
 refine wpp fun K_ h_ => ?_; go_simp; refine h_ _ _ ?_; clear h_ K_
 have cl0 := (h294.up hu315.out).cell (o := 0) rfl
 have cl1 := (h294.up hu315.out).cell (o := 1) rfl
 refine wpp fun K_ h_ => ?_; go_simp; refine h_ _ _ ?_; clear h_ K_
 clear cl0 cl1
 have cl0 := (h298.up hu315.out).cell (o := 0) rfl
 have cl1 := (h298.up hu315.out).cell (o := 1) rfl
 have cl2 := (h298.up hu315.out).cell (o := 2) rfl
 refine wpp fun K_ h_ => ?_; go_simp; refine h_ _ _ ?_; clear h_ K_
 clear cl0 cl1 cl2
 refine step_call (wanted_none rfl) (by go_simp <;> rfl) (impl_IsOnLine.calls K t11 t47 t48 t137 t138 t139 t324 t325 w314  A326.out) ?_
 rintro e w327 ⟨rfl, hu⟩
 have hu328 := Aside0.mk hu
 clear hu
 refine ⟨_, rfl, ?_⟩
 simp only [Act.put, nm1, nm2, nm3, i64_w]
 refine wpp fun K_ h_ => ?_; go_simp; refine h_ _ _ ?_; clear h_ K_
 refine wpp fun K_ h_ => ?_; go_simp; refine h_ _ _ ?_; clear h_ K_
 refine wpp fun K_ h_ => ?_; go_simp; refine h_ _ _ ?_; clear h_ K_
 refine wpp fun K_ h_ => ?_; go_simp; refine h_ _ _ ?_; clear h_ K_
 refine wpp fun K_ h_ => ?_; go_simp; refine h_ _ _ ?_; clear h_ K_
 refine wpList_nil ?_
 (try simp only [Exit.then, Exit.inBlock, ↓reduceIte, Nat.reduceEqDiff])
 refine hK323 _ _ ?_
 refine wp_seq_k (fun K329 hK329 => ?_)
 refine wp_region_lit ?_
 refine wpp fun K_ h_ => ?_; go_simp; refine h_ _ _ ?_; clear h_ K_
 refine wpp fun K_ h_ => ?_; go_simp; refine h_ _ _ ?_; clear h_ K_
 have cl0 := (h296.up (hu315.out.trans hu328.out)).cell (o := 0) rfl
 have cl1 := (h296.up (hu315.out.trans hu328.out)).cell (o := 1) rfl
 refine wpp fun K_ h_ => ?_; go_simp; refine h_ _ _ ?_; clear h_ K_
 clear cl0 cl1
 have cl0 := (h291.up (hu315.out.trans hu328.out)).cell (o := 0) rfl
 have cl1 := (h291.up (hu315.out.trans hu328.out)).cell (o := 1) rfl
 refine wpp fun K_ h_ => ?_; go_simp; refine h_ _ _ ?_; clear h_ K_
 clear cl0 cl1
 refine step_call (wanted_none rfl) (by go_simp <;> rfl) (impl_Quadrance.calls K t11 t12 t83 t84 t13 t14 t330 t331 w327  A332.out) ?_
 rintro e w333 ⟨rfl, hu⟩
 have hu334 := Aside0.mk hu
 clear hu
 refine ⟨_, rfl, ?_⟩
 simp only [Act.put, nm1, nm2, nm3, i64_w]
 refine wpp fun K_ h_ => ?_; go_simp; refine h_ _ _ ?_; clear h_ K_
 refine wpp fun K_ h_ => ?_; go_simp; refine h_ _ _ ?_; clear h_ K_
 refine wpp fun K_ h_ => ?_; go_simp; refine h_ _ _ ?_; clear h_ K_
 refine wpp fun K_ h_ => ?_; go_simp; refine h_ _ _ ?_; clear h_ K_
 refine wpp fun K_ h_ => ?_; go_simp; refine h_ _ _ ?_; clear h_ K_
 refine wpList_nil ?_
 (try simp only [Exit.then, Exit.inBlock, ↓reduceIte, Nat.reduceEqDiff])
 refine hK329 _ _ ?_
 as_aux_lemma =>
 refine wp_seq_k (fun K335 hK335 => ?_)
 refine wp_region_lit ?_
 refine wpp fun K_ h_ => ?_; go_simp; refine h_ _ _ ?_; clear h_ K_
 refine wpp fun K_ h_ => ?_; go_simp; refine h_ _ _ ?_; clear h_ K_
 have cl0 := (h296.up ((hu315.out.trans hu328.out).trans hu334.out)).cell (o := 0) rfl
 have cl1 := (h296.up ((hu315.out.trans hu328.out).trans hu334.out)).cell (o := 1) rfl
 refine wpp fun K_ h_ => ?_; go_simp; refine h_ _ _ ?_; clear h_ K_
 clear cl0 cl1
 have cl0 := (h292.up ((hu315.out.trans hu328.out).trans hu334.out)).cell (o := 0) rfl
 have cl1 := (h292.up ((hu315.out.trans hu328.out).trans hu334.out)).cell (o := 1) rfl
 refine wpp fun K_ h_ => ?_; go_simp; refine h_ _ _ ?_; clear h_ K_
 clear cl0 cl1
 refine step_call (wanted_none rfl) (by go_simp <;> rfl) (impl_Quadrance.calls K t11 t12 t83 t84 t15 t16 t336 t337 w333  A338.out) ?_
 rintro e w339 ⟨rfl, hu⟩
 have hu340 := Aside0.mk hu
 clear hu
 refine ⟨_, rfl, ?_⟩
 simp only [Act.put, nm1, nm2, nm3, i64_w]
 refine wpp fun K_ h_ => ?_; go_simp; refine h_ _ _ ?_; clear h_ K_
 refine wpp fun K_ h_ => ?_; go_simp; refine h_ _ _ ?_; clear h_ K_
 refine wpp fun K_ h_ => ?_; go_simp; refine h_ _ _ ?_; clear h_ K_
 refine wpp fun K_ h_ => ?_; go_simp; refine h_ _ _ ?_; clear h_ K_
 refine wpp fun K_ h_ => ?_; go_simp; refine h_ _ _ ?_; clear h_ K_
 refine wpList_nil ?_
 (try simp only [Exit.then, Exit.inBlock, ↓reduceIte, Nat.reduceEqDiff])
 refine hK335 _ _ ?_
 refine wp_seq_k (fun K341 hK341 => ?_)
 refine wp_region_lit ?_
 refine wpp fun K_ h_ => ?_; go_simp; refine h_ _ _ ?_; clear h_ K_
 refine wpp fun K_ h_ => ?_; go_simp; refine h_ _ _ ?_; clear h_ K_
 have cl0 := (h296.up (((hu315.out.trans hu328.out).trans hu334.out).trans hu340.out)).cell (o := 0) rfl
 have cl1 := (h296.up (((hu315.out.trans hu328.out).trans hu334.out).trans hu340.out)).cell (o := 1) rfl
 refine wpp fun K_ h_ => ?_; go_simp; refine h_ _ _ ?_; clear h_ K_
 clear cl0 cl1
 have cl0 := (h293.up (((hu315.out.trans hu328.out).trans hu334.out).trans hu340.out)).cell (o := 0) rfl
 have cl1 := (h293.up (((hu315.out.trans hu328.out).trans hu334.out).trans hu340.out)).cell (o := 1) rfl
 refine wpp fun K_ h_ => ?_; go_simp; refine h_ _ _ ?_; clear h_ K_
 clear cl0 cl1
 refine step_call (wanted_none rfl) (by go_simp <;> rfl) (impl_Quadrance.calls K t11 t12 t83 t84 t17 t18 t342 t343 w339  A344.out) ?_
 rintro e w345 ⟨rfl, hu⟩
 have hu346 := Aside0.mk hu
 clear hu
 refine ⟨_, rfl, ?_⟩
 simp only [Act.put, nm1, nm2, nm3, i64_w]
 refine wpp fun K_ h_ => ?_; go_simp; refine h_ _ _ ?_; clear h_ K_
 refine wpp fun K_ h_ => ?_; go_simp; refine h_ _ _ ?_; clear h_ K_
 refine wpp fun K_ h_ => ?_; go_simp; refine h_ _ _ ?_; clear h_ K_
 refine wpp fun K_ h_ => ?_; go_simp; refine h_ _ _ ?_; clear h_ K_
 refine wpp fun K_ h_ => ?_; go_simp; refine h_ _ _ ?_; clear h_ K_
 refine wpList_nil ?_
 (try simp only [Exit.then, Exit.inBlock, ↓reduceIte, Nat.reduceEqDiff])
 refine hK341 _ _ ?_
 refine wp_seq_k (fun K347 hK347 => ?_)
 refine wp_region_lit ?_
 refine wpp fun K_ h_ => ?_; go_simp; refine h_ _ _ ?_; clear h_ K_
 have cl0 := (h292.up ((((hu315.out.trans hu328.out).trans hu334.out).trans hu340.out).trans hu346.out)).cell (o := 0) rfl
 have cl1 := (h292.up ((((hu315.out.trans hu328.out).trans hu334.out).trans hu340.out).trans hu346.out)).cell (o := 1) rfl
 refine wpp fun K_ h_ => ?_; go_simp; refine h_ _ _ ?_; clear h_ K_
 clear cl0 cl1
 have cl0 := (h293.up ((((hu315.out.trans hu328.out).trans hu334.out).trans hu340.out).trans hu346.out)).cell (o := 0) rfl
 have cl1 := (h293.up ((((hu315.out.trans hu328.out).trans hu334.out).trans hu340.out).trans hu346.out)).cell (o := 1) rfl
 refine wpp fun K_ h_ => ?_; go_simp; refine h_ _ _ ?_; clear h_ K_
 clear cl0 cl1
 refine step_call (wanted_none rfl) (by go_simp <;> rfl) (impl_LineThrough.calls K t11 t15 t16 t17 t18 t348 t349 t350 t351 w345  A352.out) ?_
 rintro e w353 ⟨rfl, hu⟩
 have hu354 := Aside0.mk hu
 clear hu
 refine ⟨_, rfl, ?_⟩
 simp only [Act.put, nm1, nm2, nm3, i64_w]
 refine wpp fun K_ h_ => ?_; go_simp; refine h_ _ _ ?_; clear h_ K_
 refine wpp fun K_ h_ => ?_; go_simp; refine h_ _ _ ?_; clear h_ K_
 refine wpp fun K_ h_ => ?_; go_simp; refine h_ _ _ ?_; clear h_ K_
 refine step_new (cs := [.int .i64 0, .int .i64 0, .int .i64 0]) (T := 34) (f := fun b => .pointer (some ⟨b, 0, none⟩)) rfl (by go_simp <;> rfl) ?_
 intro b355 w356 hu lb hb355
 simp only [Act.put, nm1, nm2, nm3, i64_w]
 have lbb355 := Aside0.mk lb
 have ltb355 := Aside0.mk hb355.lt
 clear lb
 have hu357 := Aside0.mk hu
 clear hu
 have hB0 := hb355
 have cl0 := hB0.cell (o := 0) rfl
 have fr0 := hB0.free 0
 have cl1 := hB0.cell (o := 1) rfl
 have fr1 := hB0.free 1
 have cl2 := hB0.cell (o := 2) rfl
 have fr2 := hB0.free 2
 refine step_store (b := b355) (cs' := [.int .i64 t348, .int .i64 t349, .int .i64 t350]) (T := 34) (W' := (((w356.setCell ⟨b355, 0, none⟩ (.int .i64 t348)).setCell ⟨b355, 1, none⟩ (.int .i64 t349)).setCell ⟨b355, 2, none⟩ (.int .i64 t350))) rfl rfl (by go_simp <;> rfl) ((((Sto.refl _ _).setCell 0 _).setCell 1 _).setCell 2 _) ((((hB0).setCell 0 _).setCell 1 _).setCell 2 _) ?_
 clear hB0 cl0 fr0 cl1 fr1 cl2 fr2
 intro w358 hs hb360
 have hs359 := Aside0.mk hs
 clear hs
 refine wpp fun K_ h_ => ?_; go_simp; refine h_ _ _ ?_; clear h_ K_
 refine wpList_nil ?_
 (try simp only [Exit.then, Exit.inBlock, ↓reduceIte, Nat.reduceEqDiff])
 refine hK347 _ _ ?_
 as_aux_lemma =>
 refine wp_seq_k (fun K361 hK361 => ?_)
 refine wp_region_lit ?_
 refine wpp fun K_ h_ => ?_; go_simp; refine h_ _ _ ?_; clear h_ K_
 refine wpp fun K_ h_ => ?_; go_simp; refine h_ _ _ ?_; clear h_ K_
 have cl0 := hb360.cell (o := 0) rfl
 have cl1 := hb360.cell (o := 1) rfl
 have cl2 := hb360.cell (o := 2) rfl
 refine wpp fun K_ h_ => ?_; go_simp; refine h_ _ _ ?_; clear h_ K_
 clear cl0 cl1 cl2
 have cl0 := (h298.up (((((((hu315.out.trans hu328.out).trans hu334.out).trans hu340.out).trans hu346.out).trans hu354.out).trans hu357.out).sto (Nat.le_trans ((Nat.le_trans ((Nat.le_trans ((Nat.le_trans ((Nat.le_trans ((Nat.le_trans (hu315.out.size) hu328.out.size)) hu334.out.size)) hu340.out.size)) hu346.out.size)) hu354.out.size)) lbb355.out) hs359.out)).cell (o := 0) rfl
 have cl1 := (h298.up (((((((hu315.out.trans hu328.out).trans hu334.out).trans hu340.out).trans hu346.out).trans hu354.out).trans hu357.out).sto (Nat.le_trans ((Nat.le_trans ((Nat.le_trans ((Nat.le_trans ((Nat.le_trans ((Nat.le_trans (hu315.out.size) hu328.out.size)) hu334.out.size)) hu340.out.size)) hu346.out.size)) hu354.out.size)) lbb355.out) hs359.out)).cell (o := 1) rfl
 have cl2 := (h298.up (((((((hu315.out.trans hu328.out).trans hu334.out).trans hu340.out).trans hu346.out).trans hu354.out).trans hu357.out).sto (Nat.le_trans ((Nat.le_trans ((Nat.le_trans ((Nat.le_trans ((Nat.le_trans ((Nat.le_trans (hu315.out.size) hu328.out.size)) hu334.out.size)) hu340.out.size)) hu346.out.size)) hu354.out.size)) lbb355.out) hs359.out)).cell (o := 2) rfl
 refine wpp fun K_ h_ => ?_; go_simp; refine h_ _ _ ?_; clear h_ K_
 clear cl0 cl1 cl2
 refine step_call (wanted_none rfl) (by go_simp <;> rfl) (impl_ArePerpendicular.calls K t11 t12 t348 t349 t350 t137 t138 t139 t362 t363 w358  A364.out) ?_
 rintro e w365 ⟨rfl, hu⟩
 have hu366 := Aside0.mk hu
 clear hu
 refine ⟨_, rfl, ?_⟩
 simp only [Act.put, nm1, nm2, nm3, i64_w]
 refine wpp fun K_ h_ => ?_; go_simp; refine h_ _ _ ?_; clear h_ K_
 refine wpp fun K_ h_ => ?_; go_simp; refine h_ _ _ ?_; clear h_ K_
 refine wpp fun K_ h_ => ?_; go_simp; refine h_ _ _ ?_; clear h_ K_
 refine wpp fun K_ h_ => ?_; go_simp; refine h_ _ _ ?_; clear h_ K_
 refine wpp fun K_ h_ => ?_; go_simp; refine h_ _ _ ?_; clear h_ K_
 refine wpList_nil ?_
 (try simp only [Exit.then, Exit.inBlock, ↓reduceIte, Nat.reduceEqDiff])
 refine hK361 _ _ ?_
 refine wp_seq_k (fun K367 hK367 => ?_)
 refine wp_region_lit ?_
 refine wpp fun K_ h_ => ?_; go_simp; refine h_ _ _ ?_; clear h_ K_
 refine wpp fun K_ h_ => ?_; go_simp; refine h_ _ _ ?_; clear h_ K_
 refine wpp fun K_ h_ => ?_; go_simp; refine h_ _ _ ?_; clear h_ K_
 have hm369 := Aside0.mk (((((((((hm289.out.trans hu315.out).trans hu328.out).trans hu334.out).trans hu340.out).trans hu346.out).trans hu354.out).trans hu357.out).sto (Nat.le_trans ((Nat.le_trans ((Nat.le_trans ((Nat.le_trans ((Nat.le_trans ((Nat.le_trans ((Nat.le_trans (hm290.out) hu315.out.size)) hu328.out.size)) hu334.out.size)) hu340.out.size)) hu346.out.size)) hu354.out.size)) lbb355.out) hs359.out).trans hu366.out)
 have hm370 := Aside0.mk (Nat.le_trans ((Nat.le_trans ((Nat.le_trans ((Nat.le_trans ((Nat.le_trans ((Nat.le_trans ((Nat.le_trans ((Nat.le_trans ((Nat.le_trans (hm290.out) hu315.out.size)) hu328.out.size)) hu334.out.size)) hu340.out.size)) hu346.out.size)) hu354.out.size)) hu357.out.size)) (Nat.le_of_eq hs359.out.size.symm))) hu366.out.size)
 have h371 := (h291.up ((((((((hu315.out.trans hu328.out).trans hu334.out).trans hu340.out).trans hu346.out).trans hu354.out).trans hu357.out).sto (Nat.le_trans ((Nat.le_trans ((Nat.le_trans ((Nat.le_trans ((Nat.le_trans ((Nat.le_trans (hu315.out.size) hu328.out.size)) hu334.out.size)) hu340.out.size)) hu346.out.size)) hu354.out.size)) lbb355.out) hs359.out).trans hu366.out))
 have h372 := (h292.up ((((((((hu315.out.trans hu328.out).trans hu334.out).trans hu340.out).trans hu346.out).trans hu354.out).trans hu357.out).sto (Nat.le_trans ((Nat.le_trans ((Nat.le_trans ((Nat.le_trans ((Nat.le_trans ((Nat.le_trans (hu315.out.size) hu328.out.size)) hu334.out.size)) hu340.out.size)) hu346.out.size)) hu354.out.size)) lbb355.out) hs359.out).trans hu366.out))
 have h373 := (h293.up ((((((((hu315.out.trans hu328.out).trans hu334.out).trans hu340.out).trans hu346.out).trans hu354.out).trans hu357.out).sto (Nat.le_trans ((Nat.le_trans ((Nat.le_trans ((Nat.le_trans ((Nat.le_trans ((Nat.le_trans (hu315.out.size) hu328.out.size)) hu334.out.size)) hu340.out.size)) hu346.out.size)) hu354.out.size)) lbb355.out) hs359.out).trans hu366.out))
 have h374 := (h294.up ((((((((hu315.out.trans hu328.out).trans hu334.out).trans hu340.out).trans hu346.out).trans hu354.out).trans hu357.out).sto (Nat.le_trans ((Nat.le_trans ((Nat.le_trans ((Nat.le_trans ((Nat.le_trans ((Nat.le_trans (hu315.out.size) hu328.out.size)) hu334.out.size)) hu340.out.size)) hu346.out.size)) hu354.out.size)) lbb355.out) hs359.out).trans hu366.out))
 have h375 := (h295.up ((((((((hu315.out.trans hu328.out).trans hu334.out).trans hu340.out).trans hu346.out).trans hu354.out).trans hu357.out).sto (Nat.le_trans ((Nat.le_trans ((Nat.le_trans ((Nat.le_trans ((Nat.le_trans ((Nat.le_trans (hu315.out.size) hu328.out.size)) hu334.out.size)) hu340.out.size)) hu346.out.size)) hu354.out.size)) lbb355.out) hs359.out).trans hu366.out))
 have h376 := (h296.up ((((((((hu315.out.trans hu328.out).trans hu334.out).trans hu340.out).trans hu346.out).trans hu354.out).trans hu357.out).sto (Nat.le_trans ((Nat.le_trans ((Nat.le_trans ((Nat.le_trans ((Nat.le_trans ((Nat.le_trans (hu315.out.size) hu328.out.size)) hu334.out.size)) hu340.out.size)) hu346.out.size)) hu354.out.size)) lbb355.out) hs359.out).trans hu366.out))
 have h377 := (h297.up ((((((((hu315.out.trans hu328.out).trans hu334.out).trans hu340.out).trans hu346.out).trans hu354.out).trans hu357.out).sto (Nat.le_trans ((Nat.le_trans ((Nat.le_trans ((Nat.le_trans ((Nat.le_trans ((Nat.le_trans (hu315.out.size) hu328.out.size)) hu334.out.size)) hu340.out.size)) hu346.out.size)) hu354.out.size)) lbb355.out) hs359.out).trans hu366.out))
 have h378 := (h298.up ((((((((hu315.out.trans hu328.out).trans hu334.out).trans hu340.out).trans hu346.out).trans hu354.out).trans hu357.out).sto (Nat.le_trans ((Nat.le_trans ((Nat.le_trans ((Nat.le_trans ((Nat.le_trans ((Nat.le_trans (hu315.out.size) hu328.out.size)) hu334.out.size)) hu340.out.size)) hu346.out.size)) hu354.out.size)) lbb355.out) hs359.out).trans hu366.out))
 have h379 := (h299.up ((((((((hu315.out.trans hu328.out).trans hu334.out).trans hu340.out).trans hu346.out).trans hu354.out).trans hu357.out).sto (Nat.le_trans ((Nat.le_trans ((Nat.le_trans ((Nat.le_trans ((Nat.le_trans ((Nat.le_trans (hu315.out.size) hu328.out.size)) hu334.out.size)) hu340.out.size)) hu346.out.size)) hu354.out.size)) lbb355.out) hs359.out).trans hu366.out))
 have h380 := (h300.up ((((((((hu315.out.trans hu328.out).trans hu334.out).trans hu340.out).trans hu346.out).trans hu354.out).trans hu357.out).sto (Nat.le_trans ((Nat.le_trans ((Nat.le_trans ((Nat.le_trans ((Nat.le_trans ((Nat.le_trans (hu315.out.size) hu328.out.size)) hu334.out.size)) hu340.out.size)) hu346.out.size)) hu354.out.size)) lbb355.out) hs359.out).trans hu366.out))
 have h381 := (h301.up ((((((((hu315.out.trans hu328.out).trans hu334.out).trans hu340.out).trans hu346.out).trans hu354.out).trans hu357.out).sto (Nat.le_trans ((Nat.le_trans ((Nat.le_trans ((Nat.le_trans ((Nat.le_trans ((Nat.le_trans (hu315.out.size) hu328.out.size)) hu334.out.size)) hu340.out.size)) hu346.out.size)) hu354.out.size)) lbb355.out) hs359.out).trans hu366.out))
 have h382 := (h302.up ((((((((hu315.out.trans hu328.out).trans hu334.out).trans hu340.out).trans hu346.out).trans hu354.out).trans hu357.out).sto (Nat.le_trans ((Nat.le_trans ((Nat.le_trans ((Nat.le_trans ((Nat.le_trans ((Nat.le_trans (hu315.out.size) hu328.out.size)) hu334.out.size)) hu340.out.size)) hu346.out.size)) hu354.out.size)) lbb355.out) hs359.out).trans hu366.out))
 have h383 := (h303.up ((((((((hu315.out.trans hu328.out).trans hu334.out).trans hu340.out).trans hu346.out).trans hu354.out).trans hu357.out).sto (Nat.le_trans ((Nat.le_trans ((Nat.le_trans ((Nat.le_trans ((Nat.le_trans ((Nat.le_trans (hu315.out.size) hu328.out.size)) hu334.out.size)) hu340.out.size)) hu346.out.size)) hu354.out.size)) lbb355.out) hs359.out).trans hu366.out))
 have h384 := (h304.up ((((((((hu315.out.trans hu328.out).trans hu334.out).trans hu340.out).trans hu346.out).trans hu354.out).trans hu357.out).sto (Nat.le_trans ((Nat.le_trans ((Nat.le_trans ((Nat.le_trans ((Nat.le_trans ((Nat.le_trans (hu315.out.size) hu328.out.size)) hu334.out.size)) hu340.out.size)) hu346.out.size)) hu354.out.size)) lbb355.out) hs359.out).trans hu366.out))
 have h385 := (h305.up ((((((((hu315.out.trans hu328.out).trans hu334.out).trans hu340.out).trans hu346.out).trans hu354.out).trans hu357.out).sto (Nat.le_trans ((Nat.le_trans ((Nat.le_trans ((Nat.le_trans ((Nat.le_trans ((Nat.le_trans (hu315.out.size) hu328.out.size)) hu334.out.size)) hu340.out.size)) hu346.out.size)) hu354.out.size)) lbb355.out) hs359.out).trans hu366.out))
 have h386 := (hb286.up ((((((((hu315.out.trans hu328.out).trans hu334.out).trans hu340.out).trans hu346.out).trans hu354.out).trans hu357.out).sto (Nat.le_trans ((Nat.le_trans ((Nat.le_trans ((Nat.le_trans ((Nat.le_trans ((Nat.le_trans (hu315.out.size) hu328.out.size)) hu334.out.size)) hu340.out.size)) hu346.out.size)) hu354.out.size)) lbb355.out) hs359.out).trans hu366.out))
 by_cases c368 : (t140 == 0) = true
 rotate_left
 ·
  rw [if_neg c368] at H; replace c368 := Bool.eq_false_iff.mpr c368
  have c368n : (t140 != 0) = true := by rw [bne, c368]; rfl
  have c368p : ¬ t140 = 0 := fun e => by simp [e] at c368
  obtain rfl := Option.some.inj H
  try simp only [c368, c368n, Bool.not_true, Bool.not_false]
  refine step_no rfl ?_
  simp only [Act.put, nm1, nm2, nm3, i64_w]
  refine step_no rfl ?_
  simp only [Act.put, nm1, nm2, nm3, i64_w]
  refine wpp fun K_ h_ => ?_; go_simp; refine h_ _ _ ?_; clear h_ K_
  refine wpp fun K_ h_ => ?_; go_simp; refine h_ _ _ ?_; clear h_ K_
  refine step_no rfl ?_
  simp only [Act.put, nm1, nm2, nm3, i64_w]
  refine wpp fun K_ h_ => ?_; go_simp; refine h_ _ _ ?_; clear h_ K_
  refine wpp fun K_ h_ => ?_; go_simp; refine h_ _ _ ?_; clear h_ K_
  refine step_no rfl ?_
  simp only [Act.put, nm1, nm2, nm3, i64_w]
  refine step_no rfl ?_
  simp only [Act.put, nm1, nm2, nm3, i64_w]
  refine wpp fun K_ h_ => ?_; go_simp; refine h_ _ _ ?_; clear h_ K_
  refine wpp fun K_ h_ => ?_; go_simp; refine h_ _ _ ?_; clear h_ K_
  refine step_no rfl ?_
  simp only [Act.put, nm1, nm2, nm3, i64_w]
  refine step_no rfl ?_
  simp only [Act.put, nm1, nm2, nm3, i64_w]
  refine wpp fun K_ h_ => ?_; go_simp; refine h_ _ _ ?_; clear h_ K_
  refine wpp fun K_ h_ => ?_; go_simp; refine h_ _ _ ?_; clear h_ K_
  refine step_no rfl ?_
  simp only [Act.put, nm1, nm2, nm3, i64_w]
  refine step_no rfl ?_
  simp only [Act.put, nm1, nm2, nm3, i64_w]
  refine wpp fun K_ h_ => ?_; go_simp; refine h_ _ _ ?_; clear h_ K_
  refine wpp fun K_ h_ => ?_; go_simp; refine h_ _ _ ?_; clear h_ K_
  refine step_no rfl ?_
  simp only [Act.put, nm1, nm2, nm3, i64_w]
  refine step_no rfl ?_
  simp only [Act.put, nm1, nm2, nm3, i64_w]
  refine step_no rfl ?_
  simp only [Act.put, nm1, nm2, nm3, i64_w]
  refine wpp fun K_ h_ => ?_; go_simp; refine h_ _ _ ?_; clear h_ K_
  refine wpp fun K_ h_ => ?_; go_simp; refine h_ _ _ ?_; clear h_ K_
  refine step_no rfl ?_
  simp only [Act.put, nm1, nm2, nm3, i64_w]
  refine step_no rfl ?_
  simp only [Act.put, nm1, nm2, nm3, i64_w]
  refine step_no rfl ?_
  simp only [Act.put, nm1, nm2, nm3, i64_w]
  refine wpp fun K_ h_ => ?_; go_simp; refine h_ _ _ ?_; clear h_ K_
  refine wpp fun K_ h_ => ?_; go_simp; refine h_ _ _ ?_; clear h_ K_
  refine step_no rfl ?_
  simp only [Act.put, nm1, nm2, nm3, i64_w]
  refine step_no rfl ?_
  simp only [Act.put, nm1, nm2, nm3, i64_w]
  refine step_no rfl ?_
  simp only [Act.put, nm1, nm2, nm3, i64_w]
  refine wpp fun K_ h_ => ?_; go_simp; refine h_ _ _ ?_; clear h_ K_
  refine wpp fun K_ h_ => ?_; go_simp; refine h_ _ _ ?_; clear h_ K_
  refine step_no rfl ?_
  simp only [Act.put, nm1, nm2, nm3, i64_w]
  refine step_no rfl ?_
  simp only [Act.put, nm1, nm2, nm3, i64_w]
  refine wpp fun K_ h_ => ?_; go_simp; refine h_ _ _ ?_; clear h_ K_
  refine wpp fun K_ h_ => ?_; go_simp; refine h_ _ _ ?_; clear h_ K_
  refine step_no rfl ?_
  simp only [Act.put, nm1, nm2, nm3, i64_w]
  refine step_no rfl ?_
  simp only [Act.put, nm1, nm2, nm3, i64_w]
  refine wpp fun K_ h_ => ?_; go_simp; refine h_ _ _ ?_; clear h_ K_
  refine wpp fun K_ h_ => ?_; go_simp; refine h_ _ _ ?_; clear h_ K_
  refine step_no rfl ?_
  simp only [Act.put, nm1, nm2, nm3, i64_w]
  refine wpp fun K_ h_ => ?_; go_simp; refine h_ _ _ ?_; clear h_ K_
  refine wpp fun K_ h_ => ?_; go_simp; refine h_ _ _ ?_; clear h_ K_
  refine wpList_nil ?_
  (try simp only [Exit.then, Exit.inBlock, ↓reduceIte, Nat.reduceEqDiff])
  refine hK367 _ _ ?_
  as_aux_lemma =>
  refine wp_ret ?_
  (try simp only [Exit.then, Exit.inBlock, ↓reduceIte, Nat.reduceEqDiff])
  refine hQf _ _ _ ?_
  exact bodyPost_ret (v := .bool false) (by first | rfl | (simp [results, Try.results5, go_sem]; done) | (simp [results, Try.results5, go_sem]; rfl)) rfl ⟨rfl, hm369.out⟩
 rw [if_pos c368] at H
 have c368n : (t140 != 0) = false := by rw [bne, c368]; rfl
 try simp only [c368, c368n, Bool.not_true, Bool.not_false]
 refine wpList_step fun K_ h_ => ?_; go_simp; refine h_ _ _ ?_; clear h_ K_
 refine wpList_step fun K_ h_ => ?_; go_simp; refine h_ _ _ ?_; clear h_ K_
 refine wpp fun K_ h_ => ?_; go_simp; refine h_ _ _ ?_; clear h_ K_
 refine wpp fun K_ h_ => ?_; go_simp; refine h_ _ _ ?_; clear h_ K_
 by_cases c387 : (t325 == 0) = true
 rotate_left
 ·
  rw [if_neg c387] at H; replace c387 := Bool.eq_false_iff.mpr c387
  have c387n : (t325 != 0) = true := by rw [bne, c387]; rfl
  have c387p : ¬ t325 = 0 := fun e => by simp [e] at c387
  obtain rfl := Option.some.inj H
  try simp only [c387, c387n, Bool.not_true, Bool.not_false]
  refine step_no rfl ?_
  simp only [Act.put, nm1, nm2, nm3, i64_w]
  refine wpp fun K_ h_ => ?_; go_simp; refine h_ _ _ ?_; clear h_ K_
  refine wpp fun K_ h_ => ?_; go_simp; refine h_ _ _ ?_; clear h_ K_
  refine step_no rfl ?_
  simp only [Act.put, nm1, nm2, nm3, i64_w]
  refine step_no rfl ?_
  simp only [Act.put, nm1, nm2, nm3, i64_w]
  refine wpp fun K_ h_ => ?_; go_simp; refine h_ _ _ ?_; clear h_ K_
  refine wpp fun K_ h_ => ?_; go_simp; refine h_ _ _ ?_; clear h_ K_
  refine step_no rfl ?_
  simp only [Act.put, nm1, nm2, nm3, i64_w]
  refine step_no rfl ?_
  simp only [Act.put, nm1, nm2, nm3, i64_w]
  refine wpp fun K_ h_ => ?_; go_simp; refine h_ _ _ ?_; clear h_ K_
  refine wpp fun K_ h_ => ?_; go_simp; refine h_ _ _ ?_; clear h_ K_
  refine step_no rfl ?_
  simp only [Act.put, nm1, nm2, nm3, i64_w]
  refine step_no rfl ?_
  simp only [Act.put, nm1, nm2, nm3, i64_w]
  refine wpp fun K_ h_ => ?_; go_simp; refine h_ _ _ ?_; clear h_ K_
  refine wpp fun K_ h_ => ?_; go_simp; refine h_ _ _ ?_; clear h_ K_
  refine step_no rfl ?_
  simp only [Act.put, nm1, nm2, nm3, i64_w]
  refine step_no rfl ?_
  simp only [Act.put, nm1, nm2, nm3, i64_w]
  refine step_no rfl ?_
  simp only [Act.put, nm1, nm2, nm3, i64_w]
  refine wpp fun K_ h_ => ?_; go_simp; refine h_ _ _ ?_; clear h_ K_
  refine wpp fun K_ h_ => ?_; go_simp; refine h_ _ _ ?_; clear h_ K_
  refine step_no rfl ?_
  simp only [Act.put, nm1, nm2, nm3, i64_w]
  refine step_no rfl ?_
  simp only [Act.put, nm1, nm2, nm3, i64_w]
  refine step_no rfl ?_
  simp only [Act.put, nm1, nm2, nm3, i64_w]
  refine wpp fun K_ h_ => ?_; go_simp; refine h_ _ _ ?_; clear h_ K_
  refine wpp fun K_ h_ => ?_; go_simp; refine h_ _ _ ?_; clear h_ K_
  refine step_no rfl ?_
  simp only [Act.put, nm1, nm2, nm3, i64_w]
  refine step_no rfl ?_
  simp only [Act.put, nm1, nm2, nm3, i64_w]
  refine step_no rfl ?_
  simp only [Act.put, nm1, nm2, nm3, i64_w]
  refine wpp fun K_ h_ => ?_; go_simp; refine h_ _ _ ?_; clear h_ K_
  refine wpp fun K_ h_ => ?_; go_simp; refine h_ _ _ ?_; clear h_ K_
  refine step_no rfl ?_
  simp only [Act.put, nm1, nm2, nm3, i64_w]
  refine step_no rfl ?_
  simp only [Act.put, nm1, nm2, nm3, i64_w]
  refine wpp fun K_ h_ => ?_; go_simp; refine h_ _ _ ?_; clear h_ K_
  refine wpp fun K_ h_ => ?_; go_simp; refine h_ _ _ ?_; clear h_ K_
  refine step_no rfl ?_
  simp only [Act.put, nm1, nm2, nm3, i64_w]
  refine step_no rfl ?_
  simp only [Act.put, nm1, nm2, nm3, i64_w]
  refine wpp fun K_ h_ => ?_; go_simp; refine h_ _ _ ?_; clear h_ K_
  refine wpp fun K_ h_ => ?_; go_simp; refine h_ _ _ ?_; clear h_ K_
  refine step_no rfl ?_
  simp only [Act.put, nm1, nm2, nm3, i64_w]
  refine wpp fun K_ h_ => ?_; go_simp; refine h_ _ _ ?_; clear h_ K_
  refine wpp fun K_ h_ => ?_; go_simp; refine h_ _ _ ?_; clear h_ K_
  refine wpList_nil ?_
  (try simp only [Exit.then, Exit.inBlock, ↓reduceIte, Nat.reduceEqDiff])
  refine hK367 _ _ ?_
  as_aux_lemma =>
  refine wp_ret ?_
  (try simp only [Exit.then, Exit.inBlock, ↓reduceIte, Nat.reduceEqDiff])
  refine hQf _ _ _ ?_
  exact bodyPost_ret (v := .bool false) (by first | rfl | (simp [results, Try.results5, go_sem]; done) | (simp [results, Try.results5, go_sem]; rfl)) rfl ⟨rfl, hm369.out⟩
 rw [if_pos c387] at H
 have c387n : (t325 != 0) = false := by rw [bne, c387]; rfl
 try simp only [c387, c387n, Bool.not_true, Bool.not_false]
 refine wpList_step fun K_ h_ => ?_; go_simp; refine h_ _ _ ?_; clear h_ K_
 refine wpp fun K_ h_ => ?_; go_simp; refine h_ _ _ ?_; clear h_ K_
 refine wpp fun K_ h_ => ?_; go_simp; refine h_ _ _ ?_; clear h_ K_
 by_cases c388 : (t324) = true
 rotate_left
 ·
  rw [if_neg c388] at H; replace c388 := Bool.eq_false_iff.mpr c388
  subst c388
  obtain rfl := Option.some.inj H
  refine step_no rfl ?_
  simp only [Act.put, nm1, nm2, nm3, i64_w]
  refine step_no rfl ?_
  simp only [Act.put, nm1, nm2, nm3, i64_w]
  refine wpp fun K_ h_ => ?_; go_simp; refine h_ _ _ ?_; clear h_ K_
  refine wpp fun K_ h_ => ?_; go_simp; refine h_ _ _ ?_; clear h_ K_
  refine step_no rfl ?_
  simp only [Act.put, nm1, nm2, nm3, i64_w]
  refine step_no rfl ?_
  simp only [Act.put, nm1, nm2, nm3, i64_w]
  refine wpp fun K_ h_ => ?_; go_simp; refine h_ _ _ ?_; clear h_ K_
  refine wpp fun K_ h_ => ?_; go_simp; refine h_ _ _ ?_; clear h_ K_
  refine step_no rfl ?_
  simp only [Act.put, nm1, nm2, nm3, i64_w]
  refine step_no rfl ?_
  simp only [Act.put, nm1, nm2, nm3, i64_w]
  refine wpp fun K_ h_ => ?_; go_simp; refine h_ _ _ ?_; clear h_ K_
  refine wpp fun K_ h_ => ?_; go_simp; refine h_ _ _ ?_; clear h_ K_
  refine step_no rfl ?_
  simp only [Act.put, nm1, nm2, nm3, i64_w]
  refine step_no rfl ?_
  simp only [Act.put, nm1, nm2, nm3, i64_w]
  refine step_no rfl ?_
  simp only [Act.put, nm1, nm2, nm3, i64_w]
  refine wpp fun K_ h_ => ?_; go_simp; refine h_ _ _ ?_; clear h_ K_
  refine wpp fun K_ h_ => ?_; go_simp; refine h_ _ _ ?_; clear h_ K_
  refine step_no rfl ?_
  simp only [Act.put, nm1, nm2, nm3, i64_w]
  refine step_no rfl ?_
  simp only [Act.put, nm1, nm2, nm3, i64_w]
  refine step_no rfl ?_
  simp only [Act.put, nm1, nm2, nm3, i64_w]
  refine wpp fun K_ h_ => ?_; go_simp; refine h_ _ _ ?_; clear h_ K_
  refine wpp fun K_ h_ => ?_; go_simp; refine h_ _ _ ?_; clear h_ K_
  refine step_no rfl ?_
  simp only [Act.put, nm1, nm2, nm3, i64_w]
  refine step_no rfl ?_
  simp only [Act.put, nm1, nm2, nm3, i64_w]
  refine step_no rfl ?_
  simp only [Act.put, nm1, nm2, nm3, i64_w]
  refine wpp fun K_ h_ => ?_; go_simp; refine h_ _ _ ?_; clear h_ K_
  refine wpp fun K_ h_ => ?_; go_simp; refine h_ _ _ ?_; clear h_ K_
  refine step_no rfl ?_
  simp only [Act.put, nm1, nm2, nm3, i64_w]
  refine step_no rfl ?_
  simp only [Act.put, nm1, nm2, nm3, i64_w]
  refine wpp fun K_ h_ => ?_; go_simp; refine h_ _ _ ?_; clear h_ K_
  refine wpp fun K_ h_ => ?_; go_simp; refine h_ _ _ ?_; clear h_ K_
  refine step_no rfl ?_
  simp only [Act.put, nm1, nm2, nm3, i64_w]
  refine step_no rfl ?_
  simp only [Act.put, nm1, nm2, nm3, i64_w]
  refine wpp fun K_ h_ => ?_; go_simp; refine h_ _ _ ?_; clear h_ K_
  refine wpp fun K_ h_ => ?_; go_simp; refine h_ _ _ ?_; clear h_ K_
  refine step_no rfl ?_
  simp only [Act.put, nm1, nm2, nm3, i64_w]
  refine wpp fun K_ h_ => ?_; go_simp; refine h_ _ _ ?_; clear h_ K_
  refine wpp fun K_ h_ => ?_; go_simp; refine h_ _ _ ?_; clear h_ K_
  refine wpList_nil ?_
  (try simp only [Exit.then, Exit.inBlock, ↓reduceIte, Nat.reduceEqDiff])
  refine hK367 _ _ ?_
  refine wp_ret ?_
  (try simp only [Exit.then, Exit.inBlock, ↓reduceIte, Nat.reduceEqDiff])
  refine hQf _ _ _ ?_
  exact bodyPost_ret (v := .bool false) (by first | rfl | (simp [results, Try.results5, go_sem]; done) | (simp [results, Try.results5, go_sem]; rfl)) rfl ⟨rfl, hm369.out⟩
 rw [if_pos c388] at H
 subst c388
 refine wpList_step fun K_ h_ => ?_; go_simp; refine h_ _ _ ?_; clear h_ K_
 refine wpList_step fun K_ h_ => ?_; go_simp; refine h_ _ _ ?_; clear h_ K_
 refine wpp fun K_ h_ => ?_; go_simp; refine h_ _ _ ?_; clear h_ K_
 refine wpp fun K_ h_ => ?_; go_simp; refine h_ _ _ ?_; clear h_ K_
 by_cases c389 : (t331 == 0) = true
 rotate_left
 ·
  rw [if_neg c389] at H; replace c389 := Bool.eq_false_iff.mpr c389
  have c389n : (t331 != 0) = true := by rw [bne, c389]; rfl
  have c389p : ¬ t331 = 0 := fun e => by simp [e] at c389
  obtain rfl := Option.some.inj H
  try simp only [c389, c389n, Bool.not_true, Bool.not_false]
  refine step_no rfl ?_
  simp only [Act.put, nm1, nm2, nm3, i64_w]
  refine step_no rfl ?_
  simp only [Act.put, nm1, nm2, nm3, i64_w]
  refine wpp fun K_ h_ => ?_; go_simp; refine h_ _ _ ?_; clear h_ K_
  refine wpp fun K_ h_ => ?_; go_simp; refine h_ _ _ ?_; clear h_ K_
  refine step_no rfl ?_
  simp only [Act.put, nm1, nm2, nm3, i64_w]
  refine step_no rfl ?_
  simp only [Act.put, nm1, nm2, nm3, i64_w]
  refine wpp fun K_ h_ => ?_; go_simp; refine h_ _ _ ?_; clear h_ K_
  refine wpp fun K_ h_ => ?_; go_simp; refine h_ _ _ ?_; clear h_ K_
  refine step_no rfl ?_
  simp only [Act.put, nm1, nm2, nm3, i64_w]
  refine step_no rfl ?_
  simp only [Act.put, nm1, nm2, nm3, i64_w]
  refine step_no rfl ?_
  simp only [Act.put, nm1, nm2, nm3, i64_w]
  refine wpp fun K_ h_ => ?_; go_simp; refine h_ _ _ ?_; clear h_ K_
  refine wpp fun K_ h_ => ?_; go_simp; refine h_ _ _ ?_; clear h_ K_
  refine step_no rfl ?_
  simp only [Act.put, nm1, nm2, nm3, i64_w]
  refine step_no rfl ?_
  simp only [Act.put, nm1, nm2, nm3, i64_w]
  refine step_no rfl ?_
  simp only [Act.put, nm1, nm2, nm3, i64_w]
  refine wpp fun K_ h_ => ?_; go_simp; refine h_ _ _ ?_; clear h_ K_
  refine wpp fun K_ h_ => ?_; go_simp; refine h_ _ _ ?_; clear h_ K_
  refine step_no rfl ?_
  simp only [Act.put, nm1, nm2, nm3, i64_w]
  refine step_no rfl ?_
  simp only [Act.put, nm1, nm2, nm3, i64_w]
  refine step_no rfl ?_
  simp only [Act.put, nm1, nm2, nm3, i64_w]
  refine wpp fun K_ h_ => ?_; go_simp; refine h_ _ _ ?_; clear h_ K_
  refine wpp fun K_ h_ => ?_; go_simp; refine h_ _ _ ?_; clear h_ K_
  refine step_no rfl ?_
  simp only [Act.put, nm1, nm2, nm3, i64_w]
  refine step_no rfl ?_
  simp only [Act.put, nm1, nm2, nm3, i64_w]
  refine wpp fun K_ h_ => ?_; go_simp; refine h_ _ _ ?_; clear h_ K_
  refine wpp fun K_ h_ => ?_; go_simp; refine h_ _ _ ?_; clear h_ K_
  refine step_no rfl ?_
  simp only [Act.put, nm1, nm2, nm3, i64_w]
  refine step_no rfl ?_
  simp only [Act.put, nm1, nm2, nm3, i64_w]
  refine wpp fun K_ h_ => ?_; go_simp; refine h_ _ _ ?_; clear h_ K_
  refine wpp fun K_ h_ => ?_; go_simp; refine h_ _ _ ?_; clear h_ K_
  refine step_no rfl ?_
  simp only [Act.put, nm1, nm2, nm3, i64_w]
  refine wpp fun K_ h_ => ?_; go_simp; refine h_ _ _ ?_; clear h_ K_
  refine wpp fun K_ h_ => ?_; go_simp; refine h_ _ _ ?_; clear h_ K_
  refine wpList_nil ?_
  (try simp only [Exit.then, Exit.inBlock, ↓reduceIte, Nat.reduceEqDiff])
  refine hK367 _ _ ?_
  as_aux_lemma =>
  refine wp_ret ?_
  (try simp only [Exit.then, Exit.inBlock, ↓reduceIte, Nat.reduceEqDiff])
  refine hQf _ _ _ ?_
  exact bodyPost_ret (v := .bool false) (by first | rfl | (simp [results, Try.results5, go_sem]; done) | (simp [results, Try.results5, go_sem]; rfl)) rfl ⟨rfl, hm369.out⟩
 rw [if_pos c389] at H
 have c389n : (t331 != 0) = false := by rw [bne, c389]; rfl
 try simp only [c389, c389n, Bool.not_true, Bool.not_false]
 refine wpList_step fun K_ h_ => ?_; go_simp; refine h_ _ _ ?_; clear h_ K_
 refine wpList_step fun K_ h_ => ?_; go_simp; refine h_ _ _ ?_; clear h_ K_
 refine wpp fun K_ h_ => ?_; go_simp; refine h_ _ _ ?_; clear h_ K_
 refine wpp fun K_ h_ => ?_; go_simp; refine h_ _ _ ?_; clear h_ K_
 by_cases c390 : (t337 == 0) = true
 rotate_left
 ·
  rw [if_neg c390] at H; replace c390 := Bool.eq_false_iff.mpr c390
  have c390n : (t337 != 0) = true := by rw [bne, c390]; rfl
  have c390p : ¬ t337 = 0 := fun e => by simp [e] at c390
  obtain rfl := Option.some.inj H
  try simp only [c390, c390n, Bool.not_true, Bool.not_false]
  refine step_no rfl ?_
  simp only [Act.put, nm1, nm2, nm3, i64_w]
  refine step_no rfl ?_
  simp only [Act.put, nm1, nm2, nm3, i64_w]
  refine wpp fun K_ h_ => ?_; go_simp; refine h_ _ _ ?_; clear h_ K_
  refine wpp fun K_ h_ => ?_; go_simp; refine h_ _ _ ?_; clear h_ K_
  refine step_no rfl ?_
  simp only [Act.put, nm1, nm2, nm3, i64_w]
  refine step_no rfl ?_
  simp only [Act.put, nm1, nm2, nm3, i64_w]
  refine step_no rfl ?_
  simp only [Act.put, nm1, nm2, nm3, i64_w]
  refine wpp fun K_ h_ => ?_; go_simp; refine h_ _ _ ?_; clear h_ K_
  refine wpp fun K_ h_ => ?_; go_simp; refine h_ _ _ ?_; clear h_ K_
  refine step_no rfl ?_
  simp only [Act.put, nm1, nm2, nm3, i64_w]
  refine step_no rfl ?_
  simp only [Act.put, nm1, nm2, nm3, i64_w]
  refine step_no rfl ?_
  simp only [Act.put, nm1, nm2, nm3, i64_w]
  refine wpp fun K_ h_ => ?_; go_simp; refine h_ _ _ ?_; clear h_ K_
  refine wpp fun K_ h_ => ?_; go_simp; refine h_ _ _ ?_; clear h_ K_
  refine step_no rfl ?_
  simp only [Act.put, nm1, nm2, nm3, i64_w]
  refine step_no rfl ?_
  simp only [Act.put, nm1, nm2, nm3, i64_w]
  refine step_no rfl ?_
  simp only [Act.put, nm1, nm2, nm3, i64_w]
  refine wpp fun K_ h_ => ?_; go_simp; refine h_ _ _ ?_; clear h_ K_
  refine wpp fun K_ h_ => ?_; go_simp; refine h_ _ _ ?_; clear h_ K_
  refine step_no rfl ?_
  simp only [Act.put, nm1, nm2, nm3, i64_w]
  refine step_no rfl ?_
  simp only [Act.put, nm1, nm2, nm3, i64_w]
  refine wpp fun K_ h_ => ?_; go_simp; refine h_ _ _ ?_; clear h_ K_
  refine wpp fun K_ h_ => ?_; go_simp; refine h_ _ _ ?_; clear h_ K_
  refine step_no rfl ?_
  simp only [Act.put, nm1, nm2, nm3, i64_w]
  refine step_no rfl ?_
  simp only [Act.put, nm1, nm2, nm3, i64_w]
  refine wpp fun K_ h_ => ?_; go_simp; refine h_ _ _ ?_; clear h_ K_
  refine wpp fun K_ h_ => ?_; go_simp; refine h_ _ _ ?_; clear h_ K_
  refine step_no rfl ?_
  simp only [Act.put, nm1, nm2, nm3, i64_w]
  refine wpp fun K_ h_ => ?_; go_simp; refine h_ _ _ ?_; clear h_ K_
  refine wpp fun K_ h_ => ?_; go_simp; refine h_ _ _ ?_; clear h_ K_
  refine wpList_nil ?_
  (try simp only [Exit.then, Exit.inBlock, ↓reduceIte, Nat.reduceEqDiff])
  refine hK367 _ _ ?_
  refine wp_ret ?_
  (try simp only [Exit.then, Exit.inBlock, ↓reduceIte, Nat.reduceEqDiff])
  refine hQf _ _ _ ?_
  exact bodyPost_ret (v := .bool false) (by first | rfl | (simp [results, Try.results5, go_sem]; done) | (simp [results, Try.results5, go_sem]; rfl)) rfl ⟨rfl, hm369.out⟩
 rw [if_pos c390] at H
 have c390n : (t337 != 0) = false := by rw [bne, c390]; rfl
 try simp only [c390, c390n, Bool.not_true, Bool.not_false]
 refine wpList_step fun K_ h_ => ?_; go_simp; refine h_ _ _ ?_; clear h_ K_
 refine wpList_step fun K_ h_ => ?_; go_simp; refine h_ _ _ ?_; clear h_ K_
 refine wpp fun K_ h_ => ?_; go_simp; refine h_ _ _ ?_; clear h_ K_
 refine wpp fun K_ h_ => ?_; go_simp; refine h_ _ _ ?_; clear h_ K_
 by_cases c391 : (t343 == 0) = true
 rotate_left
 ·
  rw [if_neg c391] at H; replace c391 := Bool.eq_false_iff.mpr c391
  have c391n : (t343 != 0) = true := by rw [bne, c391]; rfl
  have c391p : ¬ t343 = 0 := fun e => by simp [e] at c391
  obtain rfl := Option.some.inj H
  try simp only [c391, c391n, Bool.not_true, Bool.not_false]
  refine step_no rfl ?_
  simp only [Act.put, nm1, nm2, nm3, i64_w]
  refine step_no rfl ?_
  simp only [Act.put, nm1, nm2, nm3, i64_w]
  refine step_no rfl ?_
  simp only [Act.put, nm1, nm2, nm3, i64_w]
  refine wpp fun K_ h_ => ?_; go_simp; refine h_ _ _ ?_; clear h_ K_
  refine wpp fun K_ h_ => ?_; go_simp; refine h_ _ _ ?_; clear h_ K_
  refine step_no rfl ?_
  simp only [Act.put, nm1, nm2, nm3, i64_w]
  refine step_no rfl ?_
  simp only [Act.put, nm1, nm2, nm3, i64_w]
  refine step_no rfl ?_
  simp only [Act.put, nm1, nm2, nm3, i64_w]
  refine wpp fun K_ h_ => ?_; go_simp; refine h_ _ _ ?_; clear h_ K_
  refine wpp fun K_ h_ => ?_; go_simp; refine h_ _ _ ?_; clear h_ K_
  refine step_no rfl ?_
  simp only [Act.put, nm1, nm2, nm3, i64_w]
  refine step_no rfl ?_
  simp only [Act.put, nm1, nm2, nm3, i64_w]
  refine step_no rfl ?_
  simp only [Act.put, nm1, nm2, nm3, i64_w]
  refine wpp fun K_ h_ => ?_; go_simp; refine h_ _ _ ?_; clear h_ K_
  refine wpp fun K_ h_ => ?_; go_simp; refine h_ _ _ ?_; clear h_ K_
  refine step_no rfl ?_
  simp only [Act.put, nm1, nm2, nm3, i64_w]
  refine step_no rfl ?_
  simp only [Act.put, nm1, nm2, nm3, i64_w]
  refine wpp fun K_ h_ => ?_; go_simp; refine h_ _ _ ?_; clear h_ K_
  refine wpp fun K_ h_ => ?_; go_simp; refine h_ _ _ ?_; clear h_ K_
  refine step_no rfl ?_
  simp only [Act.put, nm1, nm2, nm3, i64_w]
  refine step_no rfl ?_
  simp only [Act.put, nm1, nm2, nm3, i64_w]
  refine wpp fun K_ h_ => ?_; go_simp; refine h_ _ _ ?_; clear h_ K_
  refine wpp fun K_ h_ => ?_; go_simp; refine h_ _ _ ?_; clear h_ K_
  refine step_no rfl ?_
  simp only [Act.put, nm1, nm2, nm3, i64_w]
  refine wpp fun K_ h_ => ?_; go_simp; refine h_ _ _ ?_; clear h_ K_
  refine wpp fun K_ h_ => ?_; go_simp; refine h_ _ _ ?_; clear h_ K_
  refine wpList_nil ?_
  (try simp only [Exit.then, Exit.inBlock, ↓reduceIte, Nat.reduceEqDiff])
  refine hK367 _ _ ?_
  as_aux_lemma =>
  refine wp_ret ?_
  (try simp only [Exit.then, Exit.inBlock, ↓reduceIte, Nat.reduceEqDiff])
  refine hQf _ _ _ ?_
  exact bodyPost_ret (v := .bool false) (by first | rfl | (simp [results, Try.results5, go_sem]; done) | (simp [results, Try.results5, go_sem]; rfl)) rfl ⟨rfl, hm369.out⟩
 rw [if_pos c391] at H
 have c391n : (t343 != 0) = false := by rw [bne, c391]; rfl
 try simp only [c391, c391n, Bool.not_true, Bool.not_false]
 refine wpList_step fun K_ h_ => ?_; go_simp; refine h_ _ _ ?_; clear h_ K_
 refine wpList_step fun K_ h_ => ?_; go_simp; refine h_ _ _ ?_; clear h_ K_
 refine wpList_step fun K_ h_ => ?_; go_simp; refine h_ _ _ ?_; clear h_ K_
 refine wpp fun K_ h_ => ?_; go_simp; refine h_ _ _ ?_; clear h_ K_
 refine wpp fun K_ h_ => ?_; go_simp; refine h_ _ _ ?_; clear h_ K_
 by_cases c392 : (t330 == t121) = true
 rotate_left
 ·
  rw [if_neg c392] at H; replace c392 := Bool.eq_false_iff.mpr c392
  have c392n : (t330 != t121) = true := by rw [bne, c392]; rfl
  have c392p : ¬ t330 = t121 := fun e => by simp [e] at c392
  obtain rfl := Option.some.inj H
  try simp only [c392, c392n, Bool.not_true, Bool.not_false]
  refine step_no rfl ?_
  simp only [Act.put, nm1, nm2, nm3, i64_w]
  refine step_no rfl ?_
  simp only [Act.put, nm1, nm2, nm3, i64_w]
  refine step_no rfl ?_
  simp only [Act.put, nm1, nm2, nm3, i64_w]
  refine wpp fun K_ h_ => ?_; go_simp; refine h_ _ _ ?_; clear h_ K_
  refine wpp fun K_ h_ => ?_; go_simp; refine h_ _ _ ?_; clear h_ K_
  refine step_no rfl ?_
  simp only [Act.put, nm1, nm2, nm3, i64_w]
  refine step_no rfl ?_
  simp only [Act.put, nm1, nm2, nm3, i64_w]
  refine step_no rfl ?_
  simp only [Act.put, nm1, nm2, nm3, i64_w]
  refine wpp fun K_ h_ => ?_; go_simp; refine h_ _ _ ?_; clear h_ K_
  refine wpp fun K_ h_ => ?_; go_simp; refine h_ _ _ ?_; clear h_ K_
  refine step_no rfl ?_
  simp only [Act.put, nm1, nm2, nm3, i64_w]
  refine step_no rfl ?_
  simp only [Act.put, nm1, nm2, nm3, i64_w]
  refine wpp fun K_ h_ => ?_; go_simp; refine h_ _ _ ?_; clear h_ K_
  refine wpp fun K_ h_ => ?_; go_simp; refine h_ _ _ ?_; clear h_ K_
  refine step_no rfl ?_
  simp only [Act.put, nm1, nm2, nm3, i64_w]
  refine step_no rfl ?_
  simp only [Act.put, nm1, nm2, nm3, i64_w]
  refine wpp fun K_ h_ => ?_; go_simp; refine h_ _ _ ?_; clear h_ K_
  refine wpp fun K_ h_ => ?_; go_simp; refine h_ _ _ ?_; clear h_ K_
  refine step_no rfl ?_
  simp only [Act.put, nm1, nm2, nm3, i64_w]
  refine wpp fun K_ h_ => ?_; go_simp; refine h_ _ _ ?_; clear h_ K_
  refine wpp fun K_ h_ => ?_; go_simp; refine h_ _ _ ?_; clear h_ K_
  refine wpList_nil ?_
  (try simp only [Exit.then, Exit.inBlock, ↓reduceIte, Nat.reduceEqDiff])
  refine hK367 _ _ ?_
  refine wp_ret ?_
  (try simp only [Exit.then, Exit.inBlock, ↓reduceIte, Nat.reduceEqDiff])
  refine hQf _ _ _ ?_
  exact bodyPost_ret (v := .bool false) (by first | rfl | (simp [results, Try.results5, go_sem]; done) | (simp [results, Try.results5, go_sem]; rfl)) rfl ⟨rfl, hm369.out⟩
 rw [if_pos c392] at H
 have c392n : (t330 != t121) = false := by rw [bne, c392]; rfl
 try simp only [c392, c392n, Bool.not_true, Bool.not_false]
 refine wpList_step fun K_ h_ => ?_; go_simp; refine h_ _ _ ?_; clear h_ K_
 refine wpList_step fun K_ h_ => ?_; go_simp; refine h_ _ _ ?_; clear h_ K_
 refine wpList_step fun K_ h_ => ?_; go_simp; refine h_ _ _ ?_; clear h_ K_
 refine wpp fun K_ h_ => ?_; go_simp; refine h_ _ _ ?_; clear h_ K_
 refine wpp fun K_ h_ => ?_; go_simp; refine h_ _ _ ?_; clear h_ K_
 by_cases c393 : (t336 == t121) = true
 rotate_left
 ·
  rw [if_neg c393] at H; replace c393 := Bool.eq_false_iff.mpr c393
  have c393n : (t336 != t121) = true := by rw [bne, c393]; rfl
  have c393p : ¬ t336 = t121 := fun e => by simp [e] at c393
  obtain rfl := Option.some.inj H
  try simp only [c393, c393n, Bool.not_true, Bool.not_false]
  refine step_no rfl ?_
  simp only [Act.put, nm1, nm2, nm3, i64_w]
  refine step_no rfl ?_
  simp only [Act.put, nm1, nm2, nm3, i64_w]
  refine step_no rfl ?_
  simp only [Act.put, nm1, nm2, nm3, i64_w]
  refine wpp fun K_ h_ => ?_; go_simp; refine h_ _ _ ?_; clear h_ K_
  refine wpp fun K_ h_ => ?_; go_simp; refine h_ _ _ ?_; clear h_ K_
  refine step_no rfl ?_
  simp only [Act.put, nm1, nm2, nm3, i64_w]
  refine step_no rfl ?_
  simp only [Act.put, nm1, nm2, nm3, i64_w]
  refine wpp fun K_ h_ => ?_; go_simp; refine h_ _ _ ?_; clear h_ K_
  refine wpp fun K_ h_ => ?_; go_simp; refine h_ _ _ ?_; clear h_ K_
  refine step_no rfl ?_
  simp only [Act.put, nm1, nm2, nm3, i64_w]
  refine step_no rfl ?_
  simp only [Act.put, nm1, nm2, nm3, i64_w]
  refine wpp fun K_ h_ => ?_; go_simp; refine h_ _ _ ?_; clear h_ K_
  refine wpp fun K_ h_ => ?_; go_simp; refine h_ _ _ ?_; clear h_ K_
  refine step_no rfl ?_
  simp only [Act.put, nm1, nm2, nm3, i64_w]
  refine wpp fun K_ h_ => ?_; go_simp; refine h_ _ _ ?_; clear h_ K_
  refine wpp fun K_ h_ => ?_; go_simp; refine h_ _ _ ?_; clear h_ K_
  refine wpList_nil ?_
  (try simp only [Exit.then, Exit.inBlock, ↓reduceIte, Nat.reduceEqDiff])
  refine hK367 _ _ ?_
  as_aux_lemma =>
  refine wp_ret ?_
  (try simp only [Exit.then, Exit.inBlock, ↓reduceIte, Nat.reduceEqDiff])
  refine hQf _ _ _ ?_
  exact bodyPost_ret (v := .bool false) (by first | rfl | (simp [results, Try.results5, go_sem]; done) | (simp [results, Try.results5, go_sem]; rfl)) rfl ⟨rfl, hm369.out⟩
 rw [if_pos c393] at H
 have c393n : (t336 != t121) = false := by rw [bne, c393]; rfl
 try simp only [c393, c393n, Bool.not_true, Bool.not_false]
 refine wpList_step fun K_ h_ => ?_; go_simp; refine h_ _ _ ?_; clear h_ K_
 refine wpList_step fun K_ h_ => ?_; go_simp; refine h_ _ _ ?_; clear h_ K_
 refine wpList_step fun K_ h_ => ?_; go_simp; refine h_ _ _ ?_; clear h_ K_
 refine wpp fun K_ h_ => ?_; go_simp; refine h_ _ _ ?_; clear h_ K_
 refine wpp fun K_ h_ => ?_; go_simp; refine h_ _ _ ?_; clear h_ K_
 by_cases c394 : (t342 == t121) = true
 rotate_left
 ·
  rw [if_neg c394] at H; replace c394 := Bool.eq_false_iff.mpr c394
  have c394n : (t342 != t121) = true := by rw [bne, c394]; rfl
  have c394p : ¬ t342 = t121 := fun e => by simp [e] at c394
  obtain rfl := Option.some.inj H
  try simp only [c394, c394n, Bool.not_true, Bool.not_false]
  refine step_no rfl ?_
  simp only [Act.put, nm1, nm2, nm3, i64_w]
  refine step_no rfl ?_
  simp only [Act.put, nm1, nm2, nm3, i64_w]
  refine wpp fun K_ h_ => ?_; go_simp; refine h_ _ _ ?_; clear h_ K_
  refine wpp fun K_ h_ => ?_; go_simp; refine h_ _ _ ?_; clear h_ K_
  refine step_no rfl ?_
  simp only [Act.put, nm1, nm2, nm3, i64_w]
  refine step_no rfl ?_
  simp only [Act.put, nm1, nm2, nm3, i64_w]
  refine wpp fun K_ h_ => ?_; go_simp; refine h_ _ _ ?_; clear h_ K_
  refine wpp fun K_ h_ => ?_; go_simp; refine h_ _ _ ?_; clear h_ K_
  refine step_no rfl ?_
  simp only [Act.put, nm1, nm2, nm3, i64_w]
  refine wpp fun K_ h_ => ?_; go_simp; refine h_ _ _ ?_; clear h_ K_
  refine wpp fun K_ h_ => ?_; go_simp; refine h_ _ _ ?_; clear h_ K_
  refine wpList_nil ?_
  (try simp only [Exit.then, Exit.inBlock, ↓reduceIte, Nat.reduceEqDiff])
  refine hK367 _ _ ?_
  refine wp_ret ?_
  (try simp only [Exit.then, Exit.inBlock, ↓reduceIte, Nat.reduceEqDiff])
  refine hQf _ _ _ ?_
  exact bodyPost_ret (v := .bool false) (by first | rfl | (simp [results, Try.results5, go_sem]; done) | (simp [results, Try.results5, go_sem]; rfl)) rfl ⟨rfl, hm369.out⟩
 rw [if_pos c394] at H
 have c394n : (t342 != t121) = false := by rw [bne, c394]; rfl
 try simp only [c394, c394n, Bool.not_true, Bool.not_false]
 refine wpList_step fun K_ h_ => ?_; go_simp; refine h_ _ _ ?_; clear h_ K_
 refine wpList_step fun K_ h_ => ?_; go_simp; refine h_ _ _ ?_; clear h_ K_
 refine wpp fun K_ h_ => ?_; go_simp; refine h_ _ _ ?_; clear h_ K_
 refine wpp fun K_ h_ => ?_; go_simp; refine h_ _ _ ?_; clear h_ K_
 by_cases c395 : (t351 == 0) = true
 rotate_left
 ·
  rw [if_neg c395] at H; replace c395 := Bool.eq_false_iff.mpr c395
  have c395n : (t351 != 0) = true := by rw [bne, c395]; rfl
  have c395p : ¬ t351 = 0 := fun e => by simp [e] at c395
  obtain rfl := Option.some.inj H
  try simp only [c395, c395n, Bool.not_true, Bool.not_false]
  refine step_no rfl ?_
  simp only [Act.put, nm1, nm2, nm3, i64_w]
  refine step_no rfl ?_
  simp only [Act.put, nm1, nm2, nm3, i64_w]
  refine wpp fun K_ h_ => ?_; go_simp; refine h_ _ _ ?_; clear h_ K_
  refine wpp fun K_ h_ => ?_; go_simp; refine h_ _ _ ?_; clear h_ K_
  refine step_no rfl ?_
  simp only [Act.put, nm1, nm2, nm3, i64_w]
  refine wpp fun K_ h_ => ?_; go_simp; refine h_ _ _ ?_; clear h_ K_
  refine wpp fun K_ h_ => ?_; go_simp; refine h_ _ _ ?_; clear h_ K_
  refine wpList_nil ?_
  (try simp only [Exit.then, Exit.inBlock, ↓reduceIte, Nat.reduceEqDiff])
  refine hK367 _ _ ?_
  refine wp_ret ?_
  (try simp only [Exit.then, Exit.inBlock, ↓reduceIte, Nat.reduceEqDiff])
  refine hQf _ _ _ ?_
  exact bodyPost_ret (v := .bool false) (by first | rfl | (simp [results, Try.results5, go_sem]; done) | (simp [results, Try.results5, go_sem]; rfl)) rfl ⟨rfl, hm369.out⟩
 rw [if_pos c395] at H
 have c395n : (t351 != 0) = false := by rw [bne, c395]; rfl
 try simp only [c395, c395n, Bool.not_true, Bool.not_false]
 refine wpList_step fun K_ h_ => ?_; go_simp; refine h_ _ _ ?_; clear h_ K_
 refine wpList_step fun K_ h_ => ?_; go_simp; refine h_ _ _ ?_; clear h_ K_
 refine wpp fun K_ h_ => ?_; go_simp; refine h_ _ _ ?_; clear h_ K_
 refine wpp fun K_ h_ => ?_; go_simp; refine h_ _ _ ?_; clear h_ K_
 by_cases c396 : (t363 == 0) = true
 ·
  rw [if_pos c396] at H
  have c396n : (t363 != 0) = false := by rw [bne, c396]; rfl
  obtain rfl := Option.some.inj H
  try simp only [c396, c396n, Bool.not_true, Bool.not_false]
  refine wpList_step fun K_ h_ => ?_; go_simp; refine h_ _ _ ?_; clear h_ K_
  refine wpp fun K_ h_ => ?_; go_simp; refine h_ _ _ ?_; clear h_ K_
  refine wpp fun K_ h_ => ?_; go_simp; refine h_ _ _ ?_; clear h_ K_
  refine wpList_nil ?_
  (try simp only [Exit.then, Exit.inBlock, ↓reduceIte, Nat.reduceEqDiff])
  refine hK367 _ _ ?_
  as_aux_lemma =>
  refine wp_ret ?_
  (try simp only [Exit.then, Exit.inBlock, ↓reduceIte, Nat.reduceEqDiff])
  refine hQf _ _ _ ?_
  exact bodyPost_ret (v := .bool t362) (by first | rfl | (simp [results, Try.results5, go_sem]; done) | (simp [results, Try.results5, go_sem]; rfl)) rfl ⟨rfl, hm369.out⟩
 rw [if_neg c396] at H; replace c396 := Bool.eq_false_iff.mpr c396
 have c396n : (t363 != 0) = true := by rw [bne, c396]; rfl
 have c396p : ¬ t363 = 0 := fun e => by simp [e] at c396
 obtain rfl := Option.some.inj H
 try simp only [c396, c396n, Bool.not_true, Bool.not_false]
 refine step_no rfl ?_
 simp only [Act.put, nm1, nm2, nm3, i64_w]
 refine wpp fun K_ h_ => ?_; go_simp; refine h_ _ _ ?_; clear h_ K_
 refine wpp fun K_ h_ => ?_; go_simp; refine h_ _ _ ?_; clear h_ K_
 refine wpList_nil ?_
 (try simp only [Exit.then, Exit.inBlock, ↓reduceIte, Nat.reduceEqDiff])
 refine hK367 _ _ ?_
 refine wp_ret ?_
 (try simp only [Exit.then, Exit.inBlock, ↓reduceIte, Nat.reduceEqDiff])
 refine hQf _ _ _ ?_
 exact bodyPost_ret (v := .bool false) (by first | rfl | (simp [results, Try.results5, go_sem]; done) | (simp [results, Try.results5, go_sem]; rfl)) rfl ⟨rfl, hm369.out⟩

end Go.Proofs.Ytccbmdpikalpfaa
