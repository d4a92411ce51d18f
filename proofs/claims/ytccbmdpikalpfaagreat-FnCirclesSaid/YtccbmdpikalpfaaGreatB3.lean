/- A map of the call's own whose keys are lines and whose values are all true: what it holds, looked up, written. -/
import Derived.Test.YtccbmdpikalpfaaGreatB2
import Derived.MapKept
namespace Go.Proofs.YtccbmdpikalpfaaGreat
open Go Go.RowKit
set_option linter.unusedVariables false
set_option linter.unusedSimpArgs false

structure MapOf (w : World) (b : Nat) (xs : List (Int × Int × Int)) : Prop where mk ::
  (out : ∃ es clock, w.heap[b]? = some (.map es clock) ∧ es.toList.map (fun e => (e.key, e.val)) = xs.map fun x => (Value.agg (e3.enc x).toArray, Value.bool true))
section
variable {w w' : World} {b : Nat} {xs : List (Int × Int × Int)} {v : Value}
theorem MapOf.lt (h : MapOf w b xs) : b < w.heap.size := by
  obtain ⟨es, clock, h1, _⟩ := h.out
  exact (Array.getElem?_eq_some_iff.1 h1).1
theorem MapOf.move (h : MapOf w b xs) (hm : w'.heap[b]? = w.heap[b]?) : MapOf w' b xs := by
  obtain ⟨es, clock, h1, h2⟩ := h.out
  exact ⟨es, clock, hm.trans h1, h2⟩
theorem MapOf.up (h : MapOf w b xs) (u : Up w w') : MapOf w' b xs := h.move (u.block h.lt)
theorem MapOf.sto {k : Nat} (h : MapOf w b xs) (s : Sto k w w') (hk : b ≠ k) : MapOf w' b xs := h.move (s.block b hk)
theorem MapOf.grow (h : MapOf w b xs) (g : Grow v w w') (hne : ∀ k, blk v = some k → k ≠ b) : MapOf w' b xs := h.move (g.block b h.lt (fun e => hne b e rfl))
theorem MapOf.made : MapOf (w.alloc (.map #[] 0)) w.heap.size [] := ⟨#[], 0, by show (w.heap.push _)[w.heap.size]? = _; simp, rfl⟩
end
def memL (xs : List (Int × Int × Int)) (k : Int × Int × Int) : Bool := decide (k ∈ xs)

theorem run_checkKeyI (x : Int) (e : Bool) (n : Nat) (w : World) : (Instr.checkKey e (n + 1) 2 (.int .i64 x)).run Tryz.prog w = .ok () w := by
  unfold Instr.checkKey
  simp only [Sem.run_bind, run_underlying Tryz.underlying2, Result.andThen_ok]
  rfl
theorem run_checkKeyD (x y z : Int) (e : Bool) (d : Nat) (w : World) : (Instr.checkKey e (d + 1 + 1) 31 (.agg #[.int .i64 x, .int .i64 y, .int .i64 z])).run Tryz.prog w = .ok () w := by
  rw [Instr.checkKey]
  simp only [Sem.run_bind, run_underlying Tryz.underlying31, Result.andThen_ok]
  simp only [Std.Legacy.Range.forIn_eq_forIn_range', Std.Legacy.Range.size, Nat.sub_zero, Nat.add_sub_cancel, Nat.div_one, List.range'_succ, List.range'_zero, List.forIn_cons, List.forIn_nil]
  have h := run_checkKeyI
  go_simp
theorem run_checkKey3 (x y z : Int) (e : Bool) (w : World) : (Instr.checkKey e 10000 31 (.agg #[.int .i64 x, .int .i64 y, .int .i64 z])).run Tryz.prog w = .ok () w := run_checkKeyD x y z e 9998 w
theorem eqMD (a0 a1 a2 b0 b1 b2 : Int) (d : Nat) (w : World) : (Op.equalIn (d + 2) 31 (.agg #[.int .i64 a0, .int .i64 a1, .int .i64 a2]) (.agg #[.int .i64 b0, .int .i64 b1, .int .i64 b2])).run Tryz.prog w = .ok (decide ((a0, a1, a2) = (b0, b1, b2))) w := by
  rw [Op.equalIn]
  simp only [Sem.run_bind, run_underlying Tryz.underlying31, Result.andThen_ok]
  simp only [Std.Legacy.Range.forIn_eq_forIn_range', Std.Legacy.Range.size, Nat.sub_zero, Nat.add_sub_cancel, Nat.div_one, List.range'_succ, List.range'_zero, List.forIn_cons, List.forIn_nil]
  go_simp
  by_cases h0 : a0 = b0 <;> by_cases h1 : a1 = b1 <;> by_cases h2 : a2 = b2 <;> simp [h0, h1, h2]
theorem eqM (a b : Int × Int × Int) (w : World) : (Op.equal 31 (.agg #[.int .i64 a.1, .int .i64 a.2.1, .int .i64 a.2.2]) (.agg (e3.enc b).toArray)).run Tryz.prog w = .ok (decide (a = b)) w := eqMD a.1 a.2.1 a.2.2 b.1 b.2.1 b.2.2 9998 w
theorem run_findAsking (k : Int × Int × Int) (w : World) : ∀ (es : List MapEntry) (xs : List (Int × Int × Int)) (i : Nat), es.map (fun e => (e.key, e.val)) = (xs.map fun x => (Value.agg (e3.enc x).toArray, Value.bool true)) →
    ∃ r, (Instr.findAsking 31 (.agg #[.int .i64 k.1, .int .i64 k.2.1, .int .i64 k.2.2]) es i).run Tryz.prog w = .ok r w ∧ (r = none ↔ k ∉ xs) ∧ ∀ p, r = some p → p.2 = .bool true
  | [], [], i, _ => ⟨none, rfl, by simp, by simp⟩
  | [], _ :: _, i, h => by simp at h
  | _ :: _, [], i, h => by simp at h
  | e :: es, x :: xs, i, h => by
    simp only [List.map_cons, List.cons.injEq, Prod.mk.injEq] at h
    obtain ⟨⟨h1, h2⟩, h3⟩ := h
    have he := eqM k x w
    rw [← h1] at he
    unfold Instr.findAsking
    simp only [Sem.run_bind, he, Result.andThen_ok]
    by_cases hk : k = x
    · refine ⟨some (i, e.val), by simp [hk], by simp [hk], fun p hp => ?_⟩
      obtain rfl := Option.some.inj hp
      exact h2
    · obtain ⟨r, hr, ha, hb⟩ := run_findAsking k w es xs (i + 1) h3
      exact ⟨r, by simp [hk, hr], by simp [hk, ha], hb⟩
theorem run_findKey (k : Int × Int × Int) (w : World) (es : List MapEntry) (xs : List (Int × Int × Int)) (h : es.map (fun e => (e.key, e.val)) = (xs.map fun x => (Value.agg (e3.enc x).toArray, Value.bool true))) :
    ∃ r, (Instr.findKey 31 (.agg #[.int .i64 k.1, .int .i64 k.2.1, .int .i64 k.2.2]) es).run Tryz.prog w = .ok r w ∧ (r = none ↔ k ∉ xs) ∧ ∀ p, r = some p → p.2 = .bool true := by
  unfold Instr.findKey
  simp only [Sem.run_bind, run_underlying Tryz.underlying31, Result.andThen_ok]
  cases es with
  | nil =>
    cases xs with
    | nil => exact ⟨none, rfl, by simp, by simp⟩
    | cons => simp at h
  | cons e es =>
    obtain ⟨r, hr, ha, hb⟩ := run_findAsking k w (e :: es) xs 0 h
    exact ⟨r, hr, ha, hb⟩
theorem run_lookup3 {w : World} {b : Nat} {xs : List (Int × Int × Int)} (h : MapOf w b xs) (x y z : Int) : (Instr.lookup 82 (.map (some b)) (.agg #[.int .i64 x, .int .i64 y, .int .i64 z]) false).run Tryz.prog w = .ok (.bool (memL xs (x, y, z))) w := by
  obtain ⟨es, clock, h1, h2⟩ := h.out
  obtain ⟨r, hr, ha, hb⟩ := run_findKey (x, y, z) w es.toList xs h2
  unfold Instr.lookup
  simp only [Sem.run_bind, run_underlying Tryz.underlying82, Result.andThen_ok, MapKept.run_getObj_map h1, Sem.run_pure, run_checkKey3, hr]
  cases r with
  | none =>
    have : (x, y, z) ∉ xs := ha.1 rfl
    go_simp
    simp [memL, this]
  | some p =>
    have : (x, y, z) ∈ xs := Classical.byContradiction fun hn => by simpa using ha.2 hn
    have hp := hb p rfl
    obtain ⟨i, u⟩ := p
    dsimp only at hp
    subst hp
    simp [memL, this]
theorem run_update3 {w : World} {b : Nat} {xs : List (Int × Int × Int)} (h : MapOf w b xs) (x y z : Int) (hn : memL xs (x, y, z) = false) :
    ∃ W', (Instr.mapUpdate 82 (.map (some b)) (.agg #[.int .i64 x, .int .i64 y, .int .i64 z]) (.bool true)).run Tryz.prog w = .ok () W' ∧ Sto b w W' ∧ MapOf W' b (xs ++ [(x, y, z)]) := by
  obtain ⟨es, clock, h1, h2⟩ := h.out
  obtain ⟨r, hr, ha, hb⟩ := run_findKey (x, y, z) w es.toList xs h2
  obtain rfl := ha.2 (of_decide_eq_false hn)
  have hlt : b < w.heap.size := (Array.getElem?_eq_some_iff.1 h1).1
  refine ⟨{ w with heap := w.heap.setIfInBounds b (.map (es.push { key := .agg #[.int .i64 x, .int .i64 y, .int .i64 z], val := .bool true, born := clock }) (clock + 1)) }, ?_, ⟨rfl, rfl, rfl, by simp, fun k hk => by simp [Array.getElem?_setIfInBounds_ne (Ne.symm hk)]⟩, ⟨_, _, by simp [hlt]; exact ⟨rfl, rfl⟩, ?_⟩⟩
  · unfold Instr.mapUpdate
    simp only [Sem.run_bind, run_underlying Tryz.underlying82, Result.andThen_ok, MapKept.run_getObj_map h1, Sem.run_pure, run_checkKey3, hr]
    exact MapKept.run_setObj_map _ h1
  · simp [h2, e3]
section
variable {P : Program} {ops : Array Oper} {Q : Exit → Act → World → Prop} {a : Act} {w : World} {rest : List Oper} {o : Oper}
theorem step_newmap (hg : o.guard = none) (hrun : (execOp a.eval o).run P w = .ok (.value (.map (some w.heap.size))) (w.alloc (.map #[] 0)))
    (k : ∀ b w', Up w w' → w.heap.size ≤ b → MapOf w' b [] → wpList P ops Q rest (a.put o.dst (.map (some b))) w') : wpList P ops Q (o :: rest) a w := by
  refine wpList_plain hg fun K hK => ?_
  unfold Oper.wp
  rw [hrun]
  exact hK _ _ (k _ _ ((Up.refl w).alloc _) (Nat.le_refl _) MapOf.made)
theorem step_skip {W' : World} (hg : o.guard = none) (hd : o.dst = none) (hrun : (execOp a.eval o).run P w = .ok .skip W') (k : wpList P ops Q rest a W') : wpList P ops Q (o :: rest) a w := by
  refine wpList_plain hg fun K hK => ?_
  unfold Oper.wp
  rw [hrun]
  refine hK _ _ ?_
  rw [hd]
  exact k
end
end Go.Proofs.YtccbmdpikalpfaaGreat
