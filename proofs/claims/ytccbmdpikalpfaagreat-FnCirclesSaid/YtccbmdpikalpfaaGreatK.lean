/-
  WORDS OF OUR OWN: a region that draws its order, all of whose operations but the last few only let the world grow ('Up'): one walk in the order of the text serves every order. No program in sight.
-/
import Derived.StillTail
import Derived.Deep.Quiet
import Derived.Deep.QuietTactic
import Derived.Below
import Derived.WalkKit
import Derived.KernelRfl
import Derived.Maps.AppendAt
import Derived.Laws.MakeOwn
import Derived.Laws.OwnMore
import Derived.LoopN
import Derived.Deep.LoopGhost
namespace Go.Proofs.YtccbmdpikalpfaaGreat
open Go Go.RowKit
variable {TT : World → Prop}

structure Up (w w' : World) : Prop where mk :: (out : Below w.heap.size w w')

theorem Up.refl (w : World) : Up w w := ⟨Below.refl _ _⟩
theorem Up.trans {a b c : World} (h : Up a b) (k : Up b c) : Up a c :=
  ⟨h.out.trans (k.out.mono h.out.size)⟩
theorem Up.size {a b : World} (h : Up a b) : a.heap.size ≤ b.heap.size := h.out.size
theorem Up.alloc {a b : World} (h : Up a b) (o : Obj) : Up a (b.alloc o) := ⟨h.out.alloc h.size o⟩
theorem Up.drew {a b : World} (h : Up a b) : Up a b.drew := ⟨h.out.drew⟩
theorem Up.setCell {a b : World} (h : Up a b) {p : Addr} (hp : a.heap.size ≤ p.block) (u : Value) : Up a (b.setCell p u) := ⟨h.out.setCell hp u⟩
theorem Up.block {a b : World} (h : Up a b) {k : Nat} (hk : k < a.heap.size) : b.heap[k]? = a.heap[k]? := h.out.block k hk
theorem Up.cell {a b : World} (h : Up a b) {p : Addr} (hp : p.block < a.heap.size) : b.cell? p = a.cell? p := h.out.cell hp
theorem Up.frozen {a b : World} (h : Up a b) {p : Addr} (hp : p.block < a.heap.size) : b.frozen? p = a.frozen? p := h.out.frozen hp
theorem Up.kept {a b : World} (h : Up a b) {p : Addr} {v : Value} (hc : a.cell? p = some v) : b.cell? p = some v := (h.cell (World.block_lt_of_cell? a p hc)).trans hc

structure Gv (w : World) (g : Nat) (cs : List Value) : Prop where
  lt : g < w.heap.size
  cells : ∀ j u, cs[j]? = some u → w.cell? ⟨g, j, none⟩ = some u
theorem Gv.up {w w' : World} {g : Nat} {cs : List Value} (h : Gv w g cs) (u : Up w w') : Gv w' g cs := ⟨Nat.lt_of_lt_of_le h.lt u.size, fun j v hv => (u.cell (p := ⟨g, j, none⟩) h.lt).trans (h.cells j v hv)⟩
theorem Gv.cell {w : World} {g o : Nat} {cs : List Value} {v : Value} (h : Gv w g cs) (hv : cs[o]? = some v) : w.cell? ⟨g, o, none⟩ = some v := h.cells o v hv

def blk : Value → Option Nat
  | .pointer (some a) => some a.block
  | .slice (some a) _ _ => some a.block
  | .tuple ⟨.slice (some a) _ _ :: _⟩ => some a.block
  | _ => none

def repl {α : Type} (n : Nat) (x : α) : List α := List.replicate n x

inductive Slot where
  | det (d : Value)
  | any (V : Value → World → Prop) (fresh : Bool)
  | same (j : Nat)
  | pur (d : Value)

def Stab (V : Value → World → Prop) : Prop := ∀ v w w', V v w → Up w w' → V v w'

def Got (V : Value → World → Prop) (fresh : Bool) (w : World) (u : Value) (w' : World) : Prop :=
  Up w w' ∧ V u w' ∧ (fresh = true → ∀ b, blk u = some b → w.heap.size ≤ b ∧ b < w'.heap.size)

def freshUpon (P : Program) (w : World) (V : Value → World → Prop) (fresh : Bool) : Result Next → Prop
  | .ok (.value u) w' => Got V fresh w u w'
  | .ok (.enter f args) w' => w' = w ∧ Calls P f args w (fun e w'' => ∃ u, e = .returned u ∧ Got V fresh w u w'')
  | _ => False

def freshAt (P : Program) (o : Oper) (a : Act) (w : World) (V : Value → World → Prop) (fresh : Bool) : Prop := freshUpon P w V fresh ((execOp a.eval o).run P w)

structure Made where
  i : Nat
  v : Value
  V : Value → World → Prop
  f : Bool

def LeanOn (o : Oper) (w : World) : List Made → Prop
  | [] => True
  | m :: r => ((o.after.any fun e => Region.binds .any e && e.on == m.i) = true → m.V m.v w) ∧ LeanOn o w r

def getM : List Made → Nat → Value
  | [], _ => undef
  | m :: r, j => if m.i = j then m.v else getM r j
def hasM : List Made → Nat → Bool
  | [], _ => false
  | m :: r, j => decide (m.i = j) || hasM r j
def duty (P : Program) (ops : Array Oper) (w0 : World) (TT : World → Prop) (o : Oper) (a : Act) (F : List Made) : Slot → Prop
  | .det d => (Region.wanted o (yielded ops a.tmps) = true ∧ ∀ w, Up w0 w → LeanOn o w F → o.quietAt P a (Up w) w d) ∨ (Region.wanted o (yielded ops a.tmps) = false ∧ d = undef)
  | .any V fr => Region.wanted o (yielded ops a.tmps) = true ∧ Stab V ∧ ∀ w, Up w0 w → LeanOn o w F → freshAt P o a w V fr
  | .pur d => o.guard = none ∧ (∀ w, Up w0 w → TT w) ∧ ∀ w, TT w → (execOp a.eval o).run P w = .ok (.value d) w
  | .same j => Region.wanted o (yielded ops a.tmps) = true ∧ (o.after.any fun e => Region.binds .any e && e.on == j) = true ∧ hasM F j = true ∧ ∀ w, Up w0 w → LeanOn o w F → o.quietAt P a (Up w) w (getM F j)

def Apart2 (w0 w : World) : List Made → Prop
  | [] => True
  | m :: r => (m.f = true → ∀ b, blk m.v = some b → w0.heap.size ≤ b ∧ b < w.heap.size) ∧ (∀ x ∈ r, m.f = true → x.f = true → ∀ b c, blk m.v = some b → blk x.v = some c → b ≠ c) ∧ m.V m.v w ∧ Apart2 w0 w r

def wpK (P : Program) (ops : Array Oper) (w0 : World) (TT : World → Prop) (K : Act → List Made → Prop) : List Oper → List Slot → Nat → Act → List Made → Prop
  | [], [], _, a, F => K a F
  | o :: l, .det d :: ds, i, a, F => duty P ops w0 TT o a F (.det d) ∧ wpK P ops w0 TT K l ds (i + 1) (a.put o.dst d) F
  | o :: l, .any V f :: ds, i, a, F => duty P ops w0 TT o a F (.any V f) ∧ ∀ v, wpK P ops w0 TT K l ds (i + 1) (a.put o.dst v) (⟨i, v, V, f⟩ :: F)
  | o :: l, .same j :: ds, i, a, F => duty P ops w0 TT o a F (.same j) ∧ wpK P ops w0 TT K l ds (i + 1) (a.put o.dst (getM F j)) F
  | o :: l, .pur d :: ds, i, a, F => duty P ops w0 TT o a F (.pur d) ∧ wpK P ops w0 TT K l ds (i + 1) (a.put o.dst d) F
  | _, _, _, _, _ => False

/-! ### Why it serves every order -/

section
variable {P : Program} {ops : Array Oper} {w0 : World}

def Dv (ds : List Slot) (vals : Nat → Value) (i : Nat) : Value := match ds[i]? with
  | some (.det d) => d
  | some (.pur d) => d
  | some (.same j) => vals j
  | _ => vals i

def putN (l : List Oper) (ds : List Slot) (vals : Nat → Value) (a : Act) : Nat → Act
  | 0 => a
  | k + 1 => (putN l ds vals a k).put ((l[k]?).bind (·.dst)) (Dv ds vals k)

def madeN (ds : List Slot) (vals : Nat → Value) : Nat → List Made
  | 0 => []
  | k + 1 => match ds[k]? with
    | some (.any V f) => ⟨k, vals k, V, f⟩ :: madeN ds vals k
    | _ => madeN ds vals k

theorem getM_madeN {ds : List Slot} {vals : Nat → Value} {j : Nat} : ∀ {n : Nat}, hasM (madeN ds vals n) j = true → getM (madeN ds vals n) j = vals j
  | 0, h => by cases h
  | n + 1, h => by
    unfold madeN at h ⊢
    split at h
    · rename_i V f hd
      simp only [getM]
      by_cases hnj : n = j
      · rw [if_pos hnj, hnj]
      · rw [if_neg hnj]
        simp only [hasM, hnj, decide_false, Bool.false_or] at h
        exact getM_madeN h
    · exact getM_madeN h

theorem wpK_inst {K : Act → List Made → Prop} (l0 : List Oper) (ds0 : List Slot) (vals : Nat → Value) (a0 : Act) :
    ∀ (l : List Oper) (ds : List Slot) (i : Nat), i + l.length = l0.length → (∀ k, l[k]? = l0[i + k]?) → (∀ k, ds[k]? = ds0[i + k]?) →
    wpK P ops w0 TT K l ds i (putN l0 ds0 vals a0 i) (madeN ds0 vals i) →
    (∀ k o, i ≤ k → l0[k]? = some o → ∃ s, ds0[k]? = some s ∧ duty P ops w0 TT o (putN l0 ds0 vals a0 k) (madeN ds0 vals k) s) ∧ K (putN l0 ds0 vals a0 l0.length) (madeN ds0 vals l0.length) := by
  intro l
  induction l with
  | nil =>
    intro ds i hi hl hd h
    have hi' : i = l0.length := by simpa using hi
    subst hi'
    refine ⟨fun k o hk ho => ?_, ?_⟩
    · have := (List.getElem?_eq_some_iff.1 ho).1
      omega
    · cases ds with
      | nil => exact h
      | cons s ds => cases s <;> exact h.elim
  | cons o l ih =>
    intro ds i hi hl hd h
    have ho : l0[i]? = some o := by simpa using (hl 0).symm
    cases ds with
    | nil => exact h.elim
    | cons s ds =>
      have hs : ds0[i]? = some s := by simpa using (hd 0).symm
      have hl' : ∀ k, l[k]? = l0[i + 1 + k]? := fun k => by have := hl (k + 1); simpa [Nat.add_assoc, Nat.add_comm 1 k] using this
      have hd' : ∀ k, ds[k]? = ds0[i + 1 + k]? := fun k => by have := hd (k + 1); simpa [Nat.add_assoc, Nat.add_comm 1 k] using this
      have hi' : i + 1 + l.length = l0.length := by simp only [List.length_cons] at hi; omega
      have fin : duty P ops w0 TT o (putN l0 ds0 vals a0 i) (madeN ds0 vals i) s → wpK P ops w0 TT K l ds (i + 1) (putN l0 ds0 vals a0 (i + 1)) (madeN ds0 vals (i + 1)) →
          (∀ k o, i ≤ k → l0[k]? = some o → ∃ s, ds0[k]? = some s ∧ duty P ops w0 TT o (putN l0 ds0 vals a0 k) (madeN ds0 vals k) s) ∧ K (putN l0 ds0 vals a0 l0.length) (madeN ds0 vals l0.length) := fun h1 h2 => by
        obtain ⟨h3, h4⟩ := ih ds (i + 1) hi' hl' hd' h2
        refine ⟨fun k o' hk ho' => ?_, h4⟩
        by_cases hik : i = k
        · subst hik
          obtain rfl : o = o' := Option.some.inj (ho.symm.trans ho')
          exact ⟨s, hs, h1⟩
        · exact h3 k o' (by omega) ho'
      cases s with
      | det d =>
        obtain ⟨h1, h2⟩ := h
        refine fin h1 ?_
        have e1 : putN l0 ds0 vals a0 (i + 1) = (putN l0 ds0 vals a0 i).put o.dst d := by simp [putN, ho, Dv, hs]
        have e2 : madeN ds0 vals (i + 1) = madeN ds0 vals i := by simp [madeN, hs]
        rw [e1, e2]; exact h2
      | pur d =>
        obtain ⟨h1, h2⟩ := h
        refine fin h1 ?_
        have e1 : putN l0 ds0 vals a0 (i + 1) = (putN l0 ds0 vals a0 i).put o.dst d := by simp [putN, ho, Dv, hs]
        have e2 : madeN ds0 vals (i + 1) = madeN ds0 vals i := by simp [madeN, hs]
        rw [e1, e2]; exact h2
      | any V f =>
        obtain ⟨h1, h2⟩ := h
        refine fin h1 ?_
        have e1 : putN l0 ds0 vals a0 (i + 1) = (putN l0 ds0 vals a0 i).put o.dst (vals i) := by simp [putN, ho, Dv, hs]
        have e2 : madeN ds0 vals (i + 1) = ⟨i, vals i, V, f⟩ :: madeN ds0 vals i := by simp [madeN, hs]
        rw [e1, e2]; exact h2 (vals i)
      | same j =>
        obtain ⟨h1, h2⟩ := h
        refine fin h1 ?_
        have e1 : putN l0 ds0 vals a0 (i + 1) = (putN l0 ds0 vals a0 i).put o.dst (vals j) := by simp [putN, ho, Dv, hs]
        have e2 : madeN ds0 vals (i + 1) = madeN ds0 vals i := by simp [madeN, hs]
        rw [e1, e2, ← getM_madeN h1.2.2.1]; exact h2

structure Agrees (l : List Oper) (ds : List Slot) (a0 : Act) (L : Nat → Bool) (vals : Nat → Value) (a : Act) : Prop where
  defers : a.defers = a0.defers
  size : a.tmps.size = a0.tmps.size
  old : ∀ t, (∀ j, j < l.length → L j = true → (l[j]?).bind (·.dst) ≠ some t) → a.tmps[t]? = a0.tmps[t]?
  new : ∀ j t, j < l.length → L j = true → (l[j]?).bind (·.dst) = some t → t < a0.tmps.size → a.tmps[t]? = some (Dv ds vals j)

theorem Agrees.same {l : List Oper} {ds : List Slot} {a0 a a' : Act} {L L' : Nat → Bool} {vals : Nat → Value} (h : Agrees l ds a0 L vals a) (h' : Agrees l ds a0 L' vals a') {t : Nat}
    (hL : ∀ j, j < l.length → (l[j]?).bind (·.dst) = some t → L j = true ∧ L' j = true) : a.tmps[t]? = a'.tmps[t]? := by
  by_cases he : ∃ j, j < l.length ∧ (l[j]?).bind (·.dst) = some t
  · obtain ⟨j, hj, hd⟩ := he
    obtain ⟨h1, h2⟩ := hL j hj hd
    rcases Nat.lt_or_ge t a0.tmps.size with ht | ht
    · rw [h.new j t hj h1 hd ht, h'.new j t hj h2 hd ht]
    · rw [Array.getElem?_eq_none (by rw [h.size]; exact ht), Array.getElem?_eq_none (by rw [h'.size]; exact ht)]
  · rw [h.old t (fun j hj _ hd => he ⟨j, hj, hd⟩), h'.old t (fun j hj _ hd => he ⟨j, hj, hd⟩)]

theorem Act.put_size (a : Act) (d : Option Tmp) (v : Value) : (a.put d v).tmps.size = a.tmps.size := by cases d <;> simp [Act.put]
theorem Act.put_defers' (a : Act) (d : Option Tmp) (v : Value) : (a.put d v).defers = a.defers := by cases d <;> rfl
theorem Act.put_ne (a : Act) {d : Option Tmp} (v : Value) {t : Nat} (h : d ≠ some t) : (a.put d v).tmps[t]? = a.tmps[t]? := by
  cases d with
  | none => rfl
  | some d =>
    have : d ≠ t := fun e => h (by rw [e])
    simp [Act.put, Array.getElem?_setIfInBounds_ne this]
theorem Act.put_eq (a : Act) (v : Value) {t : Nat} (h : t < a.tmps.size) : (a.put (some t) v).tmps[t]? = some v := by
  simp [Act.put, h]

theorem Agrees.step {l : List Oper} {ds : List Slot} {a0 a : Act} {L L' : Nat → Bool} {vals vals' : Nat → Value} (h : Agrees l ds a0 L vals a) {i : Nat} {o : Oper} (hi : i < l.length) (ho : l[i]? = some o)
    (hdist : ∀ j, j < l.length → j ≠ i → ∀ t, (l[j]?).bind (·.dst) = some t → o.dst ≠ some t) (hLi : L' i = true) (hL : ∀ j, j ≠ i → L' j = L j) (hv : ∀ j, L j = true → j ≠ i → Dv ds vals' j = Dv ds vals j) :
    Agrees l ds a0 L' vals' (a.put o.dst (Dv ds vals' i)) := by
  refine ⟨by rw [Act.put_defers', h.defers], by rw [Act.put_size, h.size], fun t ht => ?_, fun j t hj hLj hd hts => ?_⟩
  · have h1 : o.dst ≠ some t := by have := ht i hi hLi; simpa [ho] using this
    rw [Act.put_ne _ _ h1]
    exact h.old t (fun j hj hLj => ht j hj (by by_cases hji : j = i; · rw [hji]; exact hLi
                                               · rw [hL j hji]; exact hLj))
  · by_cases hji : j = i
    · subst hji
      have : o.dst = some t := by simpa [ho] using hd
      rw [this, Act.put_eq _ _ (by rw [h.size]; exact hts)]
    · rw [Act.put_ne _ _ (hdist j hj hji t hd), h.new j t hj (by rw [← hL j hji]; exact hLj) hd hts, hv j (by rw [← hL j hji]; exact hLj) hji]

theorem putN_agrees (l : List Oper) (ds : List Slot) (vals : Nat → Value) (a0 : Act) (hdist : ∀ i j, i < l.length → j < l.length → j ≠ i → ∀ o, l[i]? = some o → ∀ t, (l[j]?).bind (·.dst) = some t → o.dst ≠ some t) :
    ∀ k, k ≤ l.length → Agrees l ds a0 (fun j => decide (j < k)) vals (putN l ds vals a0 k)
  | 0, _ => ⟨rfl, rfl, fun _ _ => rfl, fun j t _ h => by simp at h⟩
  | k + 1, hk => by
    have ih := putN_agrees l ds vals a0 hdist k (by omega)
    have hk' : k < l.length := by omega
    have ho : l[k]? = some l[k] := List.getElem?_eq_getElem hk'
    have := ih.step (L' := fun j => decide (j < k + 1)) (vals' := vals) hk' ho (fun j hj hjk t hd => hdist k j hk' hj hjk _ ho t hd) (by simp) (fun j hj => by simp only [decide_eq_decide]; omega) (fun _ _ _ => rfl)
    simpa [putN, ho] using this

theorem execOp_agree {o : Oper} (hs : ∀ cs b, o.op ≠ .select cs b) {a a' : Act} (h : ∀ t ∈ o.looksAt ops, a.tmps[t]? = a'.tmps[t]?) : execOp a.eval o = execOp a'.eval o :=
  execOp_congr o hs fun x hx => by
    cases x with
    | tmp t =>
      have := h t (List.mem_append_left _ (List.mem_filterMap.2 ⟨.tmp t, by simpa using hx, rfl⟩))
      simp [Act.eval, Array.getD_eq_getD_getElem?, this]
    | _ => rfl

theorem wanted_agree {o : Oper} {a a' : Act} (h : ∀ t ∈ o.looksAt ops, a.tmps[t]? = a'.tmps[t]?) : Region.wanted o (yielded ops a.tmps) = Region.wanted o (yielded ops a'.tmps) := by
  unfold Region.wanted
  cases hg : o.guard with
  | none => rfl
  | some gw =>
    obtain ⟨g, want⟩ := gw
    have : yielded ops a.tmps g = yielded ops a'.tmps g := by
      unfold yielded
      cases ht : (ops[g]?).bind (·.dst) with
      | none => rfl
      | some t =>
        have h1 := h t (by simp [Oper.looksAt, hg, ht])
        simp only [Option.bind_some]
        rw [h1]
    simp only [this]

theorem wpAny_more {md : Region.Mode} {Q : Exit → Act → World → Prop} : ∀ (k : Nat) (listed : Array Bool) (a : Act) (w : World), wpAny P md ops Q k listed a w → wpAny P md ops Q (k + 1) listed a w
  | 0, _, _, _, h => ⟨fun _ => h.2, by rw [h.1]; simp⟩
  | k + 1, _, _, _, h => ⟨h.1, fun i hi => wpOp_mono (fun a' w' h' => wpAny_more k _ a' w' h') (h.2 i hi)⟩
theorem wpAny_more_add {md : Region.Mode} {Q : Exit → Act → World → Prop} (f g : Nat) {listed : Array Bool} {a : Act} {w : World} (h : wpAny P md ops Q g listed a w) : wpAny P md ops Q (f + g) listed a w := by
  induction f with
  | zero => rwa [Nat.zero_add]
  | succ f ih => rw [Nat.add_right_comm]; exact wpAny_more _ _ _ _ ih

def cnt (L : Nat → Bool) : Nat → Nat
  | 0 => 0
  | k + 1 => cnt L k + if L k then 0 else 1
theorem cnt_same {L L' : Nat → Bool} : ∀ k, (∀ j, j < k → L' j = L j) → cnt L' k = cnt L k
  | 0, _ => rfl
  | k + 1, h => by simp only [cnt, h k (by omega), cnt_same k (fun j hj => h j (by omega))]
theorem cnt_one {L L' : Nat → Bool} {i : Nat} (h0 : L i = false) (h1 : L' i = true) (h : ∀ j, j ≠ i → L' j = L j) : ∀ k, i < k → cnt L k = cnt L' k + 1
  | 0, hk => by omega
  | k + 1, hk => by
    by_cases hik : i = k
    · subst hik
      simp only [cnt, h0, h1, cnt_same i (fun j hj => h j (by omega))]
      simp
    · simp only [cnt, h k (Ne.symm hik), cnt_one h0 h1 h k (by omega)]
      omega
theorem cnt_zero {L : Nat → Bool} : ∀ {k}, cnt L k = 0 → ∀ i, i < k → L i = true
  | 0, _, i, hi => by omega
  | k + 1, h, i, hi => by
    simp only [cnt] at h
    by_cases hik : i = k
    · subst hik
      cases hL : L i with
      | true => rfl
      | false => simp [hL] at h
    · exact cnt_zero (k := k) (by omega) i (by omega)
theorem cnt_le {L : Nat → Bool} : ∀ k, cnt L k ≤ k
  | 0 => Nat.le_refl _
  | k + 1 => by simp only [cnt]; have := cnt_le (L := L) k; split <;> omega

def headOf (m n : Nat) : Array Bool := ((List.range m).map fun i => decide (i < n)).toArray

def kB (ops : Array Oper) (n : Nat) : Bool :=
  Region.noSelect ops && decide (n ≤ ops.size) && (decide (n = ops.size) || (Region.sinkB .any ops n && Region.chainB .any ops n)) && Region.seqB .any ops (ops.size - n) n (headOf ops.size n) &&
  (List.range n).all fun i => match ops[i]? with
    | none => false
    | some o => (o.after.all fun e => !Region.binds .any e || decide (e.on < i)) &&
      (List.range n).all fun j => match (ops[j]?).bind (·.dst) with
        | none => true
        | some d => (decide (j = i) || o.dst != some d) && (!(o.looksAt ops).contains d || (decide (j < i) && o.after.any fun e => Region.binds .any e && e.on == j))

structure Facts (ds : List Slot) (w0 : World) (n : Nat) (L : Nat → Bool) (vals : Nat → Value) (w : World) : Prop where
  told : ∀ i V f, i < n → L i = true → ds[i]? = some (.any V f) → V (vals i) w ∧ (f = true → ∀ b, blk (vals i) = some b → w0.heap.size ≤ b ∧ b < w.heap.size)
  apart : ∀ i j V V', i < n → j < n → i ≠ j → L i = true → L j = true → ds[i]? = some (.any V true) → ds[j]? = some (.any V' true) → ∀ b c, blk (vals i) = some b → blk (vals j) = some c → b ≠ c

theorem mem_madeN {ds : List Slot} {vals : Nat → Value} : ∀ {n : Nat} {m : Made}, m ∈ madeN ds vals n → m.i < n ∧ ds[m.i]? = some (.any m.V m.f) ∧ m.v = vals m.i
  | 0, m, h => by cases h
  | n + 1, m, h => by
    unfold madeN at h
    split at h
    · rename_i V f hd
      rcases List.mem_cons.1 h with rfl | h
      · exact ⟨by simp, hd, rfl⟩
      · have := mem_madeN h; exact ⟨by omega, this.2⟩
    · have := mem_madeN h; exact ⟨by omega, this.2⟩

theorem apart2_of_facts {ds : List Slot} {n : Nat} {vals : Nat → Value} {w : World} (h : Facts ds w0 n (fun _ => true) vals w) : ∀ k, k ≤ n → Apart2 w0 w (madeN ds vals k)
  | 0, _ => trivial
  | k + 1, hk => by
    have ih := apart2_of_facts h k (by omega)
    unfold madeN
    split
    · rename_i V f hd
      have h1 := h.told k V f (by omega) rfl hd
      refine ⟨h1.2, fun x hx hf hxf b c hb hc => ?_, h1.1, ih⟩
      obtain ⟨hx1, hx2, hx3⟩ := mem_madeN hx
      dsimp only at hf hb
      subst hf
      rw [hxf] at hx2
      rw [hx3] at hc
      exact h.apart k x.i V x.V (by omega) (by omega) (by omega) rfl rfl hd hx2 b c hb hc
    · exact ih

theorem leanOn_of {o : Oper} {w : World} : ∀ {F : List Made}, (∀ m ∈ F, (o.after.any fun e => Region.binds .any e && e.on == m.i) = true → m.V m.v w) → LeanOn o w F
  | [], _ => trivial
  | m :: _, h => ⟨h m (List.mem_cons_self ..), leanOn_of fun x hx => h x (List.mem_cons_of_mem _ hx)⟩

theorem kripke {n : Nat} {ds : List Slot} {a0 : Act} {Q : Exit → Act → World → Prop} (hB : kB ops n = true)
    (hduty : ∀ (vals : Nat → Value) k o, k < n → ops[k]? = some o → ∃ s, ds[k]? = some s ∧ duty P ops w0 TT o (putN (ops.toList.take n) ds vals a0 k) (madeN ds vals k) s)
    (hend : ∀ vals w, Up w0 w → Apart2 w0 w (madeN ds vals n) → wpList P ops Q (ops.toList.drop n) (putN (ops.toList.take n) ds vals a0 n) w) :
    ∀ (f : Nat) (listed : Array Bool) (vals : Nat → Value) (a : Act) (w : World), HeadInv .any ops n listed → Agrees (ops.toList.take n) ds a0 (fun j => listed.getD j false) vals a → Up w0 w →
      Facts ds w0 n (fun j => listed.getD j false) vals w → cnt (fun j => listed.getD j false) n ≤ f → wpAny P .any ops Q (f + (ops.size - n)) listed a w := by
  have hB0 := hB
  simp only [kB, Bool.and_eq_true, Bool.or_eq_true, decide_eq_true_eq] at hB
  obtain ⟨⟨⟨⟨hsel, hn⟩, htail⟩, hseq⟩, hall⟩ := hB
  have hlen : (ops.toList.take n).length = n := by simp; omega
  have hget : ∀ k, k < n → (ops.toList.take n)[k]? = ops[k]? := fun k hk => by simp [hk]
  have hform : ∀ i o, i < n → ops[i]? = some o → (∀ e ∈ o.after, Region.binds .any e = true → e.on < i) ∧ ∀ j d, j < n → (ops[j]?).bind (·.dst) = some d → (j ≠ i → o.dst ≠ some d) ∧ (d ∈ o.looksAt ops → j < i ∧ ∃ e ∈ o.after, Region.binds .any e = true ∧ e.on = j) := fun i o hi ho => by
    have h1 := List.all_eq_true.1 hall i (List.mem_range.2 hi)
    simp only [ho, Bool.and_eq_true] at h1
    obtain ⟨h2, h3⟩ := h1
    refine ⟨fun e he hb => ?_, fun j d hj hd => ?_⟩
    · have := Array.all_eq_true_iff_forall_mem.1 h2 e he
      simpa [hb] using this
    · have h4 := List.all_eq_true.1 h3 j (List.mem_range.2 hj)
      simp only [hd, Bool.and_eq_true, Bool.or_eq_true, decide_eq_true_eq, bne_iff_ne, ne_eq] at h4
      refine ⟨fun hji => h4.1.resolve_left hji, fun hm => ?_⟩
      rcases h4.2 with h5 | ⟨h5, h6⟩
      · simp [hm] at h5
      · obtain ⟨e, he, hb⟩ := Array.any_eq_true'.1 h6
        simp only [Bool.and_eq_true, beq_iff_eq] at hb
        exact ⟨h5, e, he, hb.1, hb.2⟩
  have hdist : ∀ i j, i < (ops.toList.take n).length → j < (ops.toList.take n).length → j ≠ i → ∀ o, (ops.toList.take n)[i]? = some o → ∀ t, ((ops.toList.take n)[j]?).bind (·.dst) = some t → o.dst ≠ some t := fun i j hi hj hji o ho t hd => by
    rw [hlen] at hi hj
    rw [hget i hi] at ho
    rw [hget j hj] at hd
    exact ((hform i o hi ho).2 j t hj hd).1 hji
  intro f
  induction f with
  | zero =>
    intro listed vals a w inv hag hup hfacts hc
    have hz := cnt_zero (Nat.le_zero.1 hc)
    have hfull : listed = headOf ops.size n := by
      apply Array.ext_getElem?
      intro i
      rcases Nat.lt_or_ge i ops.size with h | h
      · have hr : (headOf ops.size n)[i]? = some (decide (i < n)) := by simp [headOf, h]
        rw [hr]
        have hi' : i < listed.size := by rw [inv.size]; exact h
        rw [Array.getElem?_eq_getElem hi']
        by_cases hin : i < n
        · have := hz i hin
          simp [hi'] at this
          simp [this, hin]
        · have := inv.tail i (by omega) h
          simp [hi'] at this
          simp [this, hin]
      · rw [Array.getElem?_eq_none (by rw [inv.size]; exact h), Array.getElem?_eq_none (by simp [headOf]; exact h)]
    have hfin : Agrees (ops.toList.take n) ds a0 (fun j => decide (j < n)) vals (putN (ops.toList.take n) ds vals a0 n) := putN_agrees _ ds vals a0 hdist n (by omega)
    have hae : a = putN (ops.toList.take n) ds vals a0 n := by
      have h1 : a.tmps = (putN (ops.toList.take n) ds vals a0 n).tmps := by
        apply Array.ext_getElem?
        intro t
        exact hag.same hfin (fun j hj _ => ⟨hz j (by rw [hlen] at hj; exact hj), by rw [hlen] at hj; simpa using hj⟩)
      have h2 : a.defers = (putN (ops.toList.take n) ds vals a0 n).defers := by rw [hag.defers, hfin.defers]
      cases a
      generalize putN (ops.toList.take n) ds vals a0 n = y at *
      cases y
      simp only at h1 h2
      rw [h1, h2]
    have hf2 : Facts ds w0 n (fun _ => true) vals w := ⟨fun i V f hi _ hd => hfacts.told i V f hi (hz i hi) hd, fun i j V V' hi hj hij _ _ h1 h2 => hfacts.apart i j V V' hi hj hij (hz i hi) (hz j hj) h1 h2⟩
    have hw := hend vals w hup (apart2_of_facts hf2 n (Nat.le_refl _))
    rw [hae, Nat.zero_add]
    have hdl : (ops.toList.drop n).length = ops.size - n := by simp
    have := wpAny_of_seq (P := P) (md := .any) (Q' := Q) (ops.toList.drop n) n listed _ w (fun j => by simp [List.getElem?_drop]) (by rw [hdl, hfull]; exact hseq) hw
    rwa [hdl] at this
  | succ f ih =>
    intro listed vals a w inv hag hup hfacts hc
    by_cases hdone : cnt (fun j => listed.getD j false) n = 0
    · have := ih listed vals a w inv hag hup hfacts (by omega)
      have h2 := wpAny_more _ _ _ _ this
      rwa [show f + (ops.size - n) + 1 = f + 1 + (ops.size - n) by omega] at h2
    · rw [show f + 1 + (ops.size - n) = (f + (ops.size - n)) + 1 by omega]
      -- some number below n is not listed
      obtain ⟨i0, hi0, hun0⟩ : ∃ i, i < n ∧ listed.getD i false = false := by
        apply Classical.byContradiction
        intro hno
        refine hdone ?_
        have hallL : ∀ i, i < n → listed.getD i false = true := fun i hi => by
          cases hL : listed.getD i false with
          | true => rfl
          | false => exact absurd ⟨i, hi, hL⟩ hno
        have hk : ∀ k, k ≤ n → cnt (fun j => listed.getD j false) k = 0 := fun k => by
          induction k with
          | zero => intro _; rfl
          | succ k ihk => intro hk; simp only [cnt, ihk (by omega), hallL k (by omega)]; rfl
        exact hk n (Nat.le_refl _)
      have hsmall : ∀ i, i ∈ Region.ready .any ops listed → i < n := fun i hi => by
        rcases htail with he | ⟨hs, hch⟩
        · obtain ⟨_, o, ho, _⟩ := mem_ready.1 hi
          have := (Array.getElem?_eq_some_iff.1 ho).1
          omega
        · by_cases hlt : n < ops.size
          · apply Nat.lt_of_not_le
            intro hle
            have hs0 : i0 < listed.size := by rw [inv.size]; omega
            exact tail_waits hs hch hlt inv _ i0 rfl hi0 (getD_in hs0 hun0) i hle hi
          · obtain ⟨_, o, ho, _⟩ := mem_ready.1 hi
            have := (Array.getElem?_eq_some_iff.1 ho).1
            omega
      refine ⟨fun hnil => ?_, fun i hi => ?_⟩
      · -- the least one that is not listed may come up
        exfalso
        have hleast : ∀ m, m < n → listed.getD m false = false → False := fun m => by
          induction m using Nat.strongRecOn with
          | _ m ihm =>
            intro hm hmun
            have hms : m < ops.size := by omega
            have : m ∈ Region.ready .any ops listed := mem_ready.2 ⟨getD_in (by rw [inv.size]; exact hms) hmun, ops[m], Array.getElem?_eq_getElem hms, fun e he hb => by
              have hlt := (hform m _ hm (Array.getElem?_eq_getElem hms)).1 e he hb
              cases hL : listed.getD e.on false with
              | true => rfl
              | false => exact (ihm e.on hlt (by omega) hL).elim⟩
            rw [hnil] at this
            cases this
        exact hleast i0 hi0 hun0
      · have hin := hsmall i hi
        obtain ⟨hunT, o, ho, hdeps⟩ := mem_ready.1 hi
        have hun : listed.getD i false = false := getD_both hunT
        have his : i < listed.size := by rw [inv.size]; omega
        have hil : i < (ops.toList.take n).length := by rw [hlen]; exact hin
        have hol : (ops.toList.take n)[i]? = some o := by rw [hget i hin]; exact ho
        obtain ⟨s, hs, hd⟩ := hduty vals i o hin ho
        have hpre : Agrees (ops.toList.take n) ds a0 (fun j => decide (j < i)) vals (putN (ops.toList.take n) ds vals a0 i) := putN_agrees _ ds vals a0 hdist i (by omega)
        have hlook : ∀ t ∈ o.looksAt ops, a.tmps[t]? = (putN (ops.toList.take n) ds vals a0 i).tmps[t]? := fun t ht => hag.same hpre fun j hj hd => by
          rw [hlen] at hj
          rw [hget j hj] at hd
          obtain ⟨hji, e, he, hb, hon⟩ := ((hform i o hin ho).2 j t hj hd).2 ht
          exact ⟨by have := hdeps e he hb; rw [hon] at this; exact this, by simpa using hji⟩
        have hex : execOp a.eval o = execOp (putN (ops.toList.take n) ds vals a0 i).eval o := execOp_agree (Region.noSelect_spec hsel i o · · ho) hlook
        have hwa := wanted_agree (ops := ops) hlook
        have hlean : LeanOn o w (madeN ds vals i) := leanOn_of fun m hm hdep => by
          obtain ⟨hmi, hmd, hmv⟩ := mem_madeN hm
          obtain ⟨e, he, hb⟩ := Array.any_eq_true'.1 hdep
          simp only [Bool.and_eq_true, beq_iff_eq] at hb
          have hl := hdeps e he hb.1
          rw [hb.2] at hl
          rw [hmv]
          exact (hfacts.told m.i m.V m.f (by omega) hl hmd).1
        have hset : ∀ j, j ≠ i → (listed.setIfInBounds i true).getD j false = listed.getD j false := fun j hj => getD_set_ne false (Ne.symm hj)
        have hseti : (listed.setIfInBounds i true).getD i false = true := by simp [his]
        have hcnt : cnt (fun j => (listed.setIfInBounds i true).getD j false) n ≤ f := by
          have := cnt_one (L := fun j => listed.getD j false) (L' := fun j => (listed.setIfInBounds i true).getD j false) hun hseti hset n hin
          omega
        have hdist' : ∀ j, j < (ops.toList.take n).length → j ≠ i → ∀ t, ((ops.toList.take n)[j]?).bind (·.dst) = some t → o.dst ≠ some t := fun j hj hji t hd => hdist i j hil hj hji o hol t hd
        have inv' := inv.set hi hin
        -- with a value that is known
        have keyD : ∀ d, Dv ds vals i = d → (∀ V f, s ≠ .any V f) → ∀ w', Up w w' → wpAny P .any ops Q (f + (ops.size - n)) (listed.setIfInBounds i true) (a.put o.dst d) w' := fun d hDv hna w' huw => by
          have := hag.step (L' := fun j => (listed.setIfInBounds i true).getD j false) (vals' := vals) hil hol hdist' hseti hset (fun _ _ _ => rfl)
          rw [hDv] at this
          refine ih _ vals _ w' inv' this (hup.trans huw) ⟨fun k V f hk hL hdk => ?_, fun k m V V' hk hm hkm hLk hLm hdk hdm => ?_⟩ hcnt
          · have hki : k ≠ i := fun e => by subst e; rw [hs] at hdk; exact hna _ _ (Option.some.inj hdk)
            replace hL : listed.getD k false = true := (hset k hki).symm.trans hL
            have h1 := hfacts.told k V f hk hL hdk
            obtain ⟨s', hs', hd'⟩ := hduty vals k ops[k] hk (Array.getElem?_eq_getElem (by omega))
            rw [hdk] at hs'
            obtain rfl := Option.some.inj hs'
            exact ⟨hd'.2.1 _ _ _ h1.1 huw, fun hf b hb => ⟨(h1.2 hf b hb).1, Nat.lt_of_lt_of_le (h1.2 hf b hb).2 huw.size⟩⟩
          · have hki : k ≠ i := fun e => by subst e; rw [hs] at hdk; exact hna _ _ (Option.some.inj hdk)
            have hmi : m ≠ i := fun e => by subst e; rw [hs] at hdm; exact hna _ _ (Option.some.inj hdm)
            replace hLk : listed.getD k false = true := (hset k hki).symm.trans hLk
            replace hLm : listed.getD m false = true := (hset m hmi).symm.trans hLm
            exact hfacts.apart k m V V' hk hm hkm hLk hLm hdk hdm
        have keyA : ∀ V fr, s = .any V fr → ∀ u w', Got V fr w u w' → wpAny P .any ops Q (f + (ops.size - n)) (listed.setIfInBounds i true) (a.put o.dst u) w' := fun V fr hsa u w' hgot => by
          subst hsa
          obtain ⟨huw, hVu, hfresh⟩ := hgot
          let vals' : Nat → Value := fun j => if j = i then u else vals j
          have hvi : vals' i = u := by simp [vals']
          have hvj : ∀ j, j ≠ i → vals' j = vals j := fun j hj => by simp [vals', hj]
          have hDv : Dv ds vals' i = u := by simp [Dv, hs, hvi]
          have := hag.step (L' := fun j => (listed.setIfInBounds i true).getD j false) (vals' := vals') hil hol hdist' hseti hset (fun j hLj hj => by
            have hsj : ∀ q, ds[j]? = some (.same q) → vals' q = vals q := fun q hq => hvj q fun e => by
              subst e
              have hjn : j < n := Nat.lt_of_not_le fun hle => by
                rcases Nat.lt_or_ge j ops.size with h | h
                · have := getD_both (inv.tail j hle h)
                  rw [this] at hLj
                  cases hLj
                · have : listed.getD j false = false := by simp [Array.getElem?_eq_none (show listed.size ≤ j by rw [inv.size]; exact h)]
                  rw [this] at hLj
                  cases hLj
              obtain ⟨s', hs', hd'⟩ := hduty vals j ops[j] hjn (Array.getElem?_eq_getElem (by omega))
              rw [hq] at hs'
              obtain rfl := Option.some.inj hs'
              obtain ⟨e, he, hb⟩ := Array.any_eq_true'.1 hd'.2.1
              simp only [Bool.and_eq_true, beq_iff_eq] at hb
              have := inv.closed j ops[j] (Array.getElem?_eq_getElem (by omega)) hLj e he hb.1
              rw [hb.2, hun] at this
              cases this
            unfold Dv
            cases hdj : ds[j]? with
            | none => exact hvj j hj
            | some sl => cases sl with
              | det d => rfl
              | pur d => rfl
              | any V f => exact hvj j hj
              | same q => exact hsj q hdj)
          rw [hDv] at this
          have told' : ∀ k V f, k < n → (listed.setIfInBounds i true).getD k false = true → ds[k]? = some (.any V f) → k ≠ i → V (vals k) w' ∧ (f = true → ∀ b, blk (vals k) = some b → w0.heap.size ≤ b ∧ b < w.heap.size) := fun k V f hk hL hdk hki => by
            rw [hset k hki] at hL
            have h1 := hfacts.told k V f hk hL hdk
            obtain ⟨s', hs', hd'⟩ := hduty vals k ops[k] hk (Array.getElem?_eq_getElem (by omega))
            rw [hdk] at hs'
            obtain rfl := Option.some.inj hs'
            exact ⟨hd'.2.1 _ _ _ h1.1 huw, h1.2⟩
          refine ih _ vals' _ w' inv' this (hup.trans huw) ⟨fun k V f hk hL hdk => ?_, fun k m V1 V2 hk hm hkm hLk hLm hdk hdm b c hb hc => ?_⟩ hcnt
          · by_cases hki : k = i
            · subst hki
              rw [hs] at hdk
              obtain ⟨rfl, rfl⟩ : V = _ ∧ fr = f := by have := Option.some.inj hdk; injection this with h1 h2; exact ⟨h1.symm, h2⟩
              rw [hvi]
              exact ⟨hVu, fun hf b hb => ⟨Nat.le_trans hup.size (hfresh hf b hb).1, (hfresh hf b hb).2⟩⟩
            · rw [hvj k hki]
              have h1 := told' k V f hk hL hdk hki
              exact ⟨h1.1, fun hf b hb => ⟨(h1.2 hf b hb).1, Nat.lt_of_lt_of_le (h1.2 hf b hb).2 huw.size⟩⟩
          · by_cases hki : k = i
            · subst hki
              rw [hs] at hdk
              obtain ⟨_, rfl⟩ : V = _ ∧ fr = true := by have := Option.some.inj hdk; injection this with h1 h2; exact ⟨h1, h2⟩
              rw [hvi] at hb
              rw [hvj m (Ne.symm hkm)] at hc
              have h1 := told' m V2 true hm hLm hdm (Ne.symm hkm)
              have h2 := (h1.2 rfl c hc).2
              have h3 := (hfresh rfl b hb).1
              omega
            · by_cases hmi : m = i
              · subst hmi
                rw [hs] at hdm
                obtain ⟨_, rfl⟩ : V = _ ∧ fr = true := by have := Option.some.inj hdm; injection this with h1 h2; exact ⟨h1, h2⟩
                rw [hvi] at hc
                rw [hvj k hki] at hb
                have h1 := told' k V1 true hk hLk hdk hki
                have h2 := (h1.2 rfl b hb).2
                have h3 := (hfresh rfl c hc).1
                omega
              · rw [hvj k hki] at hb
                rw [hvj m hmi] at hc
                replace hLk : listed.getD k false = true := (hset k hki).symm.trans hLk
                replace hLm : listed.getD m false = true := (hset m hmi).symm.trans hLm
                exact hfacts.apart k m V1 V2 hk hm hkm hLk hLm hdk hdm b c hb hc
        unfold wpOp
        simp only [ho]
        cases s with
        | det d =>
          rcases hd with ⟨hw, hq⟩ | ⟨hw, rfl⟩
          · rw [hwa, if_pos hw]
            refine .inl ?_
            have hq' := hq w hup hlean
            unfold Oper.quietAt at hq'
            rw [← hex] at hq'
            unfold Oper.wp
            generalize (execOp a.eval o).run P w = r at hq'
            cases r with
            | ok nx w' =>
              cases nx <;> simp only [Oper.quietUpon] at hq' <;> simp only [Oper.upon]
              case value u =>
                obtain ⟨rfl, rfl⟩ := hq'
                exact keyD _ (by simp [Dv, hs]) (fun _ _ => nofun) _ (Up.refl _)
              case skip =>
                obtain ⟨rfl, rfl⟩ := hq'
                exact keyD _ (by simp [Dv, hs]) (fun _ _ => nofun) _ (Up.refl _)
              case enter g args =>
                obtain ⟨rfl, hc⟩ := hq'
                refine hc.mono fun e w'' ⟨he, hw''⟩ => ?_
                subst he
                exact keyD _ (by simp [Dv, hs]) (fun _ _ => nofun) _ hw''
            | halt x w' => simp only [Oper.quietUpon] at hq'
          · rw [hwa, if_neg (by rw [hw]; simp)]
            exact keyD _ (by simp [Dv, hs]) (fun _ _ => nofun) _ (Up.refl _)
        | pur d =>
          obtain ⟨hg, hT, hr⟩ := hd
          rw [if_pos (by simp [Region.wanted, hg])]
          refine .inl ?_
          unfold Oper.wp
          rw [hex, hr w (hT w hup)]
          exact keyD _ (by simp [Dv, hs]) (fun _ _ => nofun) _ (Up.refl _)
        | same q =>
          obtain ⟨hw, _, hhas, hq⟩ := hd
          rw [hwa, if_pos hw]
          refine .inl ?_
          have hq' := hq w hup hlean
          rw [getM_madeN hhas] at hq'
          unfold Oper.quietAt at hq'
          rw [← hex] at hq'
          unfold Oper.wp
          generalize (execOp a.eval o).run P w = r at hq'
          cases r with
          | ok nx w' =>
            cases nx <;> simp only [Oper.quietUpon] at hq' <;> simp only [Oper.upon]
            case value u =>
              obtain ⟨rfl, rfl⟩ := hq'
              exact keyD _ (by simp [Dv, hs]) (fun _ _ => nofun) _ (Up.refl _)
            case skip =>
              obtain ⟨rfl, h1⟩ := hq'
              exact keyD _ (by simp [Dv, hs, h1]) (fun _ _ => nofun) _ (Up.refl _)
            case enter g args =>
              obtain ⟨rfl, hc⟩ := hq'
              refine hc.mono fun e w'' ⟨he, hw''⟩ => ?_
              subst he
              exact keyD _ (by simp [Dv, hs]) (fun _ _ => nofun) _ hw''
          | halt x w' => simp only [Oper.quietUpon] at hq'
        | any V fr =>
          obtain ⟨hw, _, hq⟩ := hd
          rw [hwa, if_pos hw]
          refine .inl ?_
          have hq' := hq w hup hlean
          unfold freshAt at hq'
          rw [← hex] at hq'
          unfold Oper.wp
          generalize (execOp a.eval o).run P w = r at hq'
          cases r with
          | ok nx w' =>
            cases nx <;> simp only [freshUpon] at hq' <;> simp only [Oper.upon]
            case value u => exact keyA _ _ rfl _ _ hq'
            case enter g args =>
              obtain ⟨rfl, hc⟩ := hq'
              refine hc.mono fun e w'' ⟨u, he, hg⟩ => ?_
              subst he
              exact keyA _ _ rfl _ _ hg
          | halt x w' => simp only [freshUpon] at hq'

theorem wp_region_up {id : Nat} {Q : Exit → Act → World → Prop} {a : Act} {w : World} {l : List Oper} (n : Nat) (ds : List Slot) (hm : P.follows .mixedOrders = true) (hB : kB l.toArray n = true)
    (h : wpK P l.toArray w.drew (fun _ => False) (fun a' F => ∀ w', Up w.drew w' → Apart2 w.drew w' F → wpList P l.toArray Q (l.drop n) a' w') (l.take n) ds 0 a []) : (Code.region id l.toArray true).wp P Q a w := by
  have hn : n ≤ l.length := by
    simp only [kB, Bool.and_eq_true, decide_eq_true_eq] at hB
    simpa using hB.1.1.1.2
  have htl : (l.take n).length = n := by simp; omega
  have hi := fun vals => wpK_inst (P := P) (ops := l.toArray) (w0 := w.drew) (l.take n) ds vals a (l.take n) ds 0 (by simp) (fun k => by simp) (fun k => by simp) h
  refine wp_region_any hm ?_
  have := kripke (P := P) (ops := l.toArray) (w0 := w.drew) (n := n) (ds := ds) (a0 := a) (Q := Q) hB
    (fun vals k o hk ho => (hi vals).1 k o (Nat.zero_le _) (by simpa [hk] using ho))
    (fun vals w' hu ha => by
      have := (hi vals).2 w' hu (by rw [htl]; exact ha)
      rw [htl] at this
      simpa using this)
    n (Array.replicate l.toArray.size false) (fun _ => undef) a w.drew
    ⟨by simp, fun j oj _ hl => (by rw [getD_replicate_false] at hl; cases hl), fun t _ ht => getD_in (by simpa using ht) (getD_replicate_false _ _)⟩
    ⟨rfl, rfl, fun _ _ => rfl, fun j t _ hl => (by simp only [getD_replicate_false] at hl; cases hl)⟩ (Up.refl _)
    ⟨fun i V f _ hl => (by simp only [getD_replicate_false] at hl; cases hl), fun i j V V' _ _ _ hl => (by simp only [getD_replicate_false] at hl; cases hl)⟩ (cnt_le _)
  rwa [show n + (l.toArray.size - n) = l.toArray.size by simp; omega] at this

/-! ### Operations that may come up late -/
def plainB (o : Oper) : Bool := match o.op with
  | .move _ | .assign _ | .load .. | .extract .. | .fieldAddr .. | .indexAddr .. | .binOp .. | .unOp .. => true
  | _ => false
theorem wanted_none' {o : Oper} {y : Nat → Option Bool} (h : o.guard = none) : Region.wanted o y = true := by simp [Region.wanted, h]
def headD (m n : Nat) (D : List Nat) : Array Bool := ((List.range m).map fun i => decide (i < n) && !D.contains i).toArray
def subs : List Nat → List (List Nat)
  | [] => [[]]
  | f :: F => subs F ++ (subs F).map (f :: ·)
theorem filter_mem_subs (p : Nat → Bool) : ∀ F : List Nat, F.filter p ∈ subs F
  | [] => by simp [subs]
  | f :: F => by
    have := filter_mem_subs p F
    by_cases h : p f = true
    · simp [subs, h, this]
    · simp [subs, h, this]
def tailB (o : Oper) : Bool := match o.op with
  | .store .. => true
  | _ => plainB o
theorem tail_one {w : World} {s : Sem Value} : (∃ v w', (do pure (Next.value (← s)) : Sem Next).run P w = .ok (.value v) w') ∨ ∃ x w', (do pure (Next.value (← s)) : Sem Next).run P w = .halt x w' := by
  simp only [Sem.run_bind, Sem.run_pure]
  generalize s.run P w = r
  cases r with
  | ok v w' => exact .inl ⟨v, w', rfl⟩
  | halt x w' => exact .inr ⟨x, w', rfl⟩
theorem tail_run {o : Oper} (h : tailB o = true) (ρ : Operand → Value) (w : World) : (∃ v w', (execOp ρ o).run P w = .ok (.value v) w') ∨ (∃ w', (execOp ρ o).run P w = .ok .skip w') ∨ ∃ x w', (execOp ρ o).run P w = .halt x w' := by
  unfold execOp
  unfold tailB plainB at h
  cases ho : o.op <;> simp only [ho] at h ⊢ <;> first
    | exact absurd h (by decide)
    | exact .inl ⟨_, _, rfl⟩
    | exact tail_one.elim .inl (fun h => .inr (.inr h))
    | (simp only [Sem.run_bind, Sem.run_pure]
       rename_i t p x
       generalize (Instr.storeAt t (ρ p) (ρ x)).run P w = r
       cases r with
       | ok v w' => exact .inr (.inl ⟨w', rfl⟩)
       | halt y w' => exact .inr (.inr ⟨y, w', rfl⟩))
def apartB (ops : Array Oper) (k : Nat) (D : List Nat) : Bool := match ops[k]? with
  | none => false
  | some o => tailB o && D.all fun f => match ops[f]? with
    | none => false
    | some of => o.apart ops of
def bringB (ops : Array Oper) (i : Nat) : List Nat → Bool
  | [] => false
  | f :: D => decide (f = i) || ((match ops[i]?, ops[f]? with
    | some o, some of => o.apart ops of
    | _, _ => false) && bringB ops i D)
def floatB (ops : Array Oper) : Nat → Nat → List Nat → Array Bool → Bool
  | 0, k, D, listed => (Region.ready .any ops listed).isEmpty && D.isEmpty && decide (ops.size ≤ k)
  | g + 1, k, D, listed => !(Region.ready .any ops listed).isEmpty && (Region.ready .any ops listed).all fun i =>
      (bringB ops i D && floatB ops g k (D.erase i) (listed.setIfInBounds i true)) || (decide (i = k) && apartB ops k D && floatB ops g (k + 1) D (listed.setIfInBounds k true))
def wrapQ (L : Act → World → Prop) : Exit → Act → World → Prop
  | .normal, a, w => L a w
  | _, _, _ => False
def wpListU (P : Program) (ops : Array Oper) (T : World → Prop) (Q : Exit → Act → World → Prop) : List Oper → Act → World → Prop
  | [], a, w => T w ∧ Q .normal a w
  | o :: l, a, w => T w ∧ wpList P ops (wrapQ (wpListU P ops T Q l)) [o] a w
theorem wpListU_up {T : World → Prop} {w : World} {Q : Exit → Act → World → Prop} {l : List Oper} {a : Act} (h : wpListU P ops T Q l a w) : T w := by cases l <;> exact h.1
def Fl (P : Program) (ops : Array Oper) (T : World → Prop) (val : Nat → Value) (f : Nat) (a : Act) : Prop :=
  ∃ o, ops[f]? = some o ∧ Region.wanted o (yielded ops a.tmps) = true ∧ ∀ w, T w → (execOp a.eval o).run P w = .ok (.value (val f)) w
def putF1 (ops : Array Oper) (val : Nat → Value) (f : Nat) (a : Act) : Act := match ops[f]? with
  | some o => a.put o.dst (val f)
  | none => a
def putD (ops : Array Oper) (val : Nat → Value) : List Nat → Act → Act
  | [], a => a
  | f :: D, a => putD ops val D (putF1 ops val f a)
def FlL (P : Program) (ops : Array Oper) (T : World → Prop) (val : Nat → Value) : List Nat → Act → Prop
  | [], _ => True
  | f :: D, a => Fl P ops T val f a ∧ FlL P ops T val D (putF1 ops val f a)
theorem put_comm (a : Act) {d e : Option Tmp} (u v : Value) (h : ∀ t, d = some t → e ≠ some t) : (a.put d u).put e v = (a.put e v).put d u := by
  cases d with
  | none => cases e <;> rfl
  | some d =>
    cases e with
    | none => rfl
    | some e =>
      have hne : d ≠ e := fun h' => h d rfl (by rw [h'])
      simp only [Act.put]
      rw [Array.setIfInBounds_comm _ _ hne]
theorem putF1_comm {val : Nat → Value} {f : Nat} {o : Oper} {a : Act} {v : Value} (hf : ∃ of, ops[f]? = some of ∧ o.apart ops of = true) : putF1 ops val f (a.put o.dst v) = (putF1 ops val f a).put o.dst v := by
  obtain ⟨of, hof, hap⟩ := hf
  unfold putF1
  simp only [hof]
  exact put_comm a v (val f) (fun t ht => (Oper.apart_spec hap).2.1 t ht)
theorem putD_comm {val : Nat → Value} {o : Oper} {v : Value} : ∀ (D : List Nat) (a : Act), (∀ f ∈ D, ∃ of, ops[f]? = some of ∧ o.apart ops of = true) → putD ops val D (a.put o.dst v) = (putD ops val D a).put o.dst v
  | [], _, _ => rfl
  | f :: D, a, h => by
    simp only [putD]
    rw [putF1_comm (h f (List.mem_cons_self ..))]
    exact putD_comm D _ (fun g hg => h g (List.mem_cons_of_mem _ hg))
theorem FlL_put {T : World → Prop} {val : Nat → Value} (hsel : Region.noSelect ops = true) {o : Oper} {v : Value} : ∀ (D : List Nat) (a : Act), (∀ f ∈ D, ∃ of, ops[f]? = some of ∧ o.apart ops of = true) → FlL P ops T val D a → FlL P ops T val D (a.put o.dst v)
  | [], _, _, _ => trivial
  | f :: D, a, h, ⟨⟨of, hof, hw, hr⟩, h2⟩ => by
    obtain ⟨of', hof', hap⟩ := h f (List.mem_cons_self ..)
    rw [hof] at hof'
    obtain rfl := Option.some.inj hof'
    have hl : ∀ t ∈ of.looksAt ops, (a.put o.dst v).tmps[t]? = a.tmps[t]? := fun t ht => Act.put_ne a v (fun hd => (Oper.apart_spec hap).1 t hd ht)
    refine ⟨⟨of, hof, ?_, fun w hw' => ?_⟩, ?_⟩
    · rw [wanted_agree hl]; exact hw
    · rw [execOp_agree (Region.noSelect_spec hsel f of · · hof) hl]; exact hr w hw'
    · rw [putF1_comm (h f (List.mem_cons_self ..))]
      exact FlL_put hsel D _ (fun g hg => h g (List.mem_cons_of_mem _ hg)) h2
theorem putD_looks {val : Nat → Value} {o : Oper} : ∀ (D : List Nat) (a : Act), (∀ f ∈ D, ∃ of, ops[f]? = some of ∧ o.apart ops of = true) → ∀ t ∈ o.looksAt ops, (putD ops val D a).tmps[t]? = a.tmps[t]?
  | [], _, _, _, _ => rfl
  | f :: D, a, h, t, ht => by
    obtain ⟨of, hof, hap⟩ := h f (List.mem_cons_self ..)
    simp only [putD]
    rw [putD_looks D _ (fun g hg => h g (List.mem_cons_of_mem _ hg)) t ht]
    unfold putF1
    simp only [hof]
    exact Act.put_ne a _ (fun hd => (Oper.apart_spec hap).2.2 t hd ht)
theorem apartB_spec {k : Nat} {D : List Nat} (h : apartB ops k D = true) : ∃ o, ops[k]? = some o ∧ tailB o = true ∧ ∀ f ∈ D, ∃ of, ops[f]? = some of ∧ o.apart ops of = true := by
  unfold apartB at h
  cases hk : ops[k]? with
  | none => rw [hk] at h; cases h
  | some o =>
    rw [hk] at h
    simp only [Bool.and_eq_true] at h
    refine ⟨o, rfl, h.1, fun f hf => ?_⟩
    have h1 := List.all_eq_true.1 h.2 f hf
    cases hf2 : ops[f]? with
    | none => rw [hf2] at h1; cases h1
    | some of => rw [hf2] at h1; exact ⟨of, rfl, h1⟩
theorem putF1_swap {val : Nat → Value} {i f : Nat} {o of : Oper} {a : Act} (ho : ops[i]? = some o) (hf : ops[f]? = some of) (hap : o.apart ops of = true) : putF1 ops val f (putF1 ops val i a) = putF1 ops val i (putF1 ops val f a) := by
  unfold putF1
  simp only [ho, hf]
  exact (put_comm a (val f) (val i) (fun t ht hd => (Oper.apart_spec hap).2.1 t hd ht)).symm
theorem Fl_put {T : World → Prop} {val : Nat → Value} (hsel : Region.noSelect ops = true) {i f : Nat} {o of : Oper} {a : Act} (ho : ops[i]? = some o) (hf : ops[f]? = some of) (hl : ∀ t, of.dst = some t → t ∉ o.looksAt ops) : Fl P ops T val i (putF1 ops val f a) ↔ Fl P ops T val i a := by
  have hlook : ∀ t ∈ o.looksAt ops, (putF1 ops val f a).tmps[t]? = a.tmps[t]? := fun t ht => by
    unfold putF1
    simp only [hf]
    exact Act.put_ne a _ (fun hd => hl t hd ht)
  have hw := wanted_agree (ops := ops) hlook
  have hx := execOp_agree (Region.noSelect_spec hsel i o · · ho) hlook
  unfold Fl
  constructor
  · rintro ⟨o', ho', h1, h2⟩
    obtain rfl := Option.some.inj (ho.symm.trans ho')
    exact ⟨_, ho, by rw [← hw]; exact h1, fun w h => by rw [← hx]; exact h2 w h⟩
  · rintro ⟨o', ho', h1, h2⟩
    obtain rfl := Option.some.inj (ho.symm.trans ho')
    exact ⟨_, ho, by rw [hw]; exact h1, fun w h => by rw [hx]; exact h2 w h⟩
theorem bring {T : World → Prop} {val : Nat → Value} (hsel : Region.noSelect ops = true) {i : Nat} : ∀ (D : List Nat) (a : Act), bringB ops i D = true → FlL P ops T val D a → Fl P ops T val i a ∧ FlL P ops T val (D.erase i) (putF1 ops val i a) ∧ putD ops val (D.erase i) (putF1 ops val i a) = putD ops val D a
  | [], _, h, _ => by cases h
  | f :: D, a, h, ⟨h1, h2⟩ => by
    by_cases hfi : f = i
    · subst hfi
      rw [List.erase_cons_head]
      exact ⟨h1, h2, rfl⟩
    · have hB := h
      simp only [bringB, hfi, decide_false, Bool.false_or, Bool.and_eq_true] at hB
      obtain ⟨hap, hB⟩ := hB
      cases ho : ops[i]? with
      | none => rw [ho] at hap; cases hap
      | some o =>
        cases hof : ops[f]? with
        | none => rw [ho, hof] at hap; cases hap
        | some of =>
          rw [ho, hof] at hap
          obtain ⟨a1, a2, a3⟩ := Oper.apart_spec hap
          obtain ⟨b1, b2, b3⟩ := bring hsel D _ hB h2
          rw [List.erase_cons_tail (by simpa using hfi)]
          have hsw := putF1_swap (val := val) (a := a) ho hof hap
          refine ⟨(Fl_put hsel ho hof fun t ht hm => a3 t ht hm).1 b1, ⟨(Fl_put hsel hof ho fun t ht hm => a1 t ht hm).2 h1, ?_⟩, ?_⟩
          · rw [hsw]
            exact b2
          · simp only [putD]
            rw [hsw]
            exact b3
theorem floatTail {T : World → Prop} {val : Nat → Value} {Q : Exit → Act → World → Prop} (hsel : Region.noSelect ops = true) : ∀ (g k : Nat) (D : List Nat) (listed : Array Bool) (a : Act) (w : World), floatB ops g k D listed = true → T w → FlL P ops T val D a →
    wpListU P ops T Q (ops.toList.drop k) (putD ops val D a) w → wpAny P .any ops Q g listed a w
  | 0, k, D, listed, a, w, hB, hu, hF, h => by
    simp only [floatB, Bool.and_eq_true, List.isEmpty_iff, decide_eq_true_eq] at hB
    obtain ⟨⟨h1, rfl⟩, hk⟩ := hB
    rw [List.drop_eq_nil_of_le (by simpa using hk)] at h
    exact ⟨h1, h.2⟩
  | g + 1, k, D, listed, a, w, hB, hu, hF, h => by
    simp only [floatB, Bool.and_eq_true, List.all_eq_true, Bool.or_eq_true, decide_eq_true_eq] at hB
    obtain ⟨hne, hall⟩ := hB
    refine ⟨fun h0 => (by simp [h0] at hne), fun i hi => ?_⟩
    rcases hall i hi with ⟨hD, hB'⟩ | ⟨⟨rfl, hap⟩, hB'⟩
    · obtain ⟨⟨o, ho, hw, hr⟩, hF', hput⟩ := bring hsel D a hD hF
      unfold wpOp
      simp only [ho]
      rw [if_pos hw]
      refine .inl ?_
      unfold Oper.wp
      rw [hr w hu]
      have e : putF1 ops val i a = a.put o.dst (val i) := by simp [putF1, ho]
      rw [e] at hF' hput
      rw [← hput] at h
      exact floatTail hsel g k (D.erase i) _ _ w hB' hu hF' h
    · obtain ⟨o, ho, htl, hap⟩ := apartB_spec hap
      have hk : i < ops.size := (Array.getElem?_eq_some_iff.1 ho).1
      have hdrop : ops.toList.drop i = o :: ops.toList.drop (i + 1) := by
        rw [List.drop_eq_getElem_cons (by simpa using hk)]
        congr 1
        have := (Array.getElem?_eq_some_iff.1 ho).2
        simpa using this
      rw [hdrop] at h
      obtain ⟨hu', h⟩ := h
      have hl := putD_looks (ops := ops) (val := val) D a hap
      have hex : execOp (putD ops val D a).eval o = execOp a.eval o := execOp_agree (Region.noSelect_spec hsel i o · · ho) hl
      have key : ∀ v w', wpListU P ops T Q (ops.toList.drop (i + 1)) ((putD ops val D a).put o.dst v) w' → wpAny P .any ops Q g (listed.setIfInBounds i true) (a.put o.dst v) w' := fun v w' h' => by
        refine floatTail hsel g (i + 1) D _ _ w' hB' (wpListU_up h') (FlL_put hsel D a hap hF) ?_
        rw [putD_comm D a hap]
        exact h'
      have hwa := wanted_agree (ops := ops) hl
      unfold wpOp
      simp only [ho]
      simp only [wpList] at h
      rw [hwa] at h
      split at h
      · rename_i hw
        rw [if_pos hw]
        rcases h with h | ⟨_, x, y, hx⟩
        · refine .inl ?_
          unfold Oper.wp at h ⊢
          rw [hex] at h
          rcases tail_run (P := P) htl a.eval w with ⟨v, w', hv⟩ | ⟨w', hv⟩ | ⟨x, w', hv⟩
          · rw [hv] at h ⊢
            exact key v w' h
          · rw [hv] at h ⊢
            exact key undef w' h
          · rw [hv] at h
            cases x <;> simp only [Oper.upon, wrapQ] at h
        · exact absurd hx (by simp [wrapQ])
      · rename_i hw
        rw [if_neg hw]
        exact key undef w h
def sinkF (ops : Array Oper) (n : Nat) (F : List Nat) : Bool :=
  (List.range n).all fun i => F.contains i || (List.range (n + 1)).any fun j => decide (i < j) && !F.contains j && Region.waitsFor .any ops j i
theorem tail_waitsF {n : Nat} {F : List Nat} {listed : Array Bool} (hs : sinkF ops n F = true) (hc : Region.chainB .any ops n = true) (hn : n < ops.size) (inv : HeadInv .any ops n listed) :
    ∀ (d i : Nat), n - i = d → i < n → i ∉ F → listed.getD i true = false → ∀ t, n ≤ t → t ∉ Region.ready .any ops listed := by
  intro d
  induction d using Nat.strongRecOn with
  | _ d ih =>
    intro i hd hi hiF hun t ht hr
    obtain ⟨_, ot, hot, hall⟩ := mem_ready.1 hr
    have htlt : t < ops.size := (Array.getElem?_eq_some_iff.1 hot).1
    by_cases htn : t = n
    · subst htn
      have h1 := List.all_eq_true.1 hs i (List.mem_range.2 hi)
      simp only [Bool.or_eq_true] at h1
      rcases h1 with h1 | h1
      · exact absurd (by simpa using h1) hiF
      obtain ⟨j, hj, hj2⟩ := List.any_eq_true.1 h1
      simp only [Bool.and_eq_true, decide_eq_true_eq] at hj2
      obtain ⟨oj, hoj, e, he, hb, hon⟩ := Region.waitsFor_spec hj2.2
      have hjF : j ∉ F := by have := hj2.1.2; simpa using this
      have hjle : j ≤ t := by have := List.mem_range.1 hj; omega
      by_cases hjt : j = t
      · subst hjt
        have : oj = ot := Option.some.inj (hoj.symm.trans hot)
        subst this
        have h2 := hall e he hb
        rw [hon, getD_both hun] at h2
        cases h2
      · cases hl : listed.getD j false with
        | true =>
          have h2 := inv.closed j oj hoj hl e he hb
          rw [hon, getD_both hun] at h2
          cases h2
        | false =>
          have hjs : j < listed.size := by rw [inv.size]; omega
          exact ih (t - j) (by omega) j rfl (by omega) hjF (getD_in hjs hl) t (Nat.le_refl _) hr
    · have h1 := List.all_eq_true.1 hc t (List.mem_range.2 htlt)
      simp only [Bool.or_eq_true, decide_eq_true_eq] at h1
      rcases h1 with h1 | h1
      · omega
      · obtain ⟨o', ho', e, he, hb, hon⟩ := Region.waitsFor_spec h1
        have : o' = ot := Option.some.inj (ho'.symm.trans hot)
        subst this
        have h2 := hall e he hb
        rw [hon, getD_both (inv.tail (t - 1) (by omega) (by omega))] at h2
        cases h2
def isDetS : Slot → Bool
  | .det _ => true
  | _ => false
def detB (ops : Array Oper) (F : List Nat) (bs : List Bool) : Bool := F.all fun f => (bs[f]?).getD false && match ops[f]? with
  | none => true
  | some o => o.after.all fun e => !Region.binds .any e || (bs[e.on]?).getD false
def kF (ops : Array Oper) (n : Nat) (F : List Nat) : Bool :=
  Region.noSelect ops && decide (n ≤ ops.size) && (decide (n = ops.size) || (sinkF ops n F && Region.chainB .any ops n)) && ((subs F).all fun D => floatB ops (D.length + (ops.size - n)) n D (headD ops.size n D)) &&
  ((List.range n).all fun i => match ops[i]? with
    | none => false
    | some o => (o.after.all fun e => !Region.binds .any e || decide (e.on < i)) &&
      (List.range n).all fun j => match (ops[j]?).bind (·.dst) with
        | none => true
        | some d => (decide (j = i) || o.dst != some d) && (!(o.looksAt ops).contains d || (decide (j < i) && o.after.any fun e => Region.binds .any e && e.on == j))) &&
  (decide (F.Pairwise (· < ·)) && F.all fun f => decide (f < n) && match ops[f]? with
    | none => false
    | some o => o.guard.isNone && plainB o)
theorem filter_lt {p q : Nat → Bool} {x : Nat} : ∀ {F : List Nat}, x ∈ F → p x = true → q x = false → (∀ j, q j = true → p j = true) → (F.filter q).length < (F.filter p).length
  | [], h, _, _, _ => by cases h
  | y :: F, h, hp, hq, hqp => by
    have hle : ∀ G : List Nat, (G.filter q).length ≤ (G.filter p).length := fun G => by
      induction G with
      | nil => simp
      | cons z G ih =>
        by_cases hz : q z = true
        · simp [hz, hqp z hz, ih]
        · by_cases hz2 : p z = true
          · simp [hz, hz2]; omega
          · simp [hz, hz2, ih]
    rcases List.mem_cons.1 h with rfl | h
    · simp [hp, hq]; exact Nat.lt_succ_of_le (hle F)
    · have := filter_lt h hp hq hqp
      by_cases hz : q y = true
      · simp [hz, hqp y hz, this]
      · by_cases hz2 : p y = true
        · simp [hz, hz2]; omega
        · simp [hz, hz2, this]
theorem kF_float {n : Nat} {F : List Nat} (hB : kF ops n F = true) : ∀ f ∈ F, f < n ∧ ∃ o, ops[f]? = some o ∧ o.guard = none ∧ plainB o = true := fun f hf => by
  simp only [kF, Bool.and_eq_true, Bool.or_eq_true, decide_eq_true_eq] at hB
  have h1 := List.all_eq_true.1 hB.2.2 f hf
  simp only [Bool.and_eq_true, decide_eq_true_eq] at h1
  refine ⟨h1.1, ?_⟩
  have h2 := h1.2
  cases ho : ops[f]? with
  | none => rw [ho] at h2; cases h2
  | some o =>
    rw [ho] at h2
    simp only [Bool.and_eq_true, Option.isNone_iff_eq_none] at h2
    exact ⟨o, rfl, h2.1, h2.2⟩
theorem kripkeF {n : Nat} {F : List Nat} {T : World → Prop} {ds : List Slot} {a0 : Act} {Q : Exit → Act → World → Prop} (hB : kF ops n F = true) (hT0 : ∀ w, Up w0 w → T w)
    (hFr : ∀ (vals : Nat → Value) g o, g ∈ F → ops[g]? = some o → ∀ w, T w → (execOp (putN (ops.toList.take n) ds vals a0 g).eval o).run P w = .ok (.value (Dv ds vals g)) w)
    (hFa : ∀ f V fr, f ∈ F → ds[f]? ≠ some (.any V fr))
    (hduty : ∀ (vals : Nat → Value) k o, k < n → ops[k]? = some o → ∃ s, ds[k]? = some s ∧ duty P ops w0 TT o (putN (ops.toList.take n) ds vals a0 k) (madeN ds vals k) s)
    (hend : ∀ vals w, Up w0 w → Apart2 w0 w (madeN ds vals n) → wpListU P ops T Q (ops.toList.drop n) (putN (ops.toList.take n) ds vals a0 n) w) :
    ∀ (f : Nat) (listed : Array Bool) (vals : Nat → Value) (a : Act) (w : World), HeadInv .any ops n listed → Agrees (ops.toList.take n) ds a0 (fun j => listed.getD j false) vals a → Up w0 w →
      Facts ds w0 n (fun j => listed.getD j false) vals w → (F.filter fun j => !listed.getD j false).length + cnt (fun j => listed.getD j false || F.contains j) n ≤ f → wpAny P .any ops Q (f + (ops.size - n)) listed a w := by
  have hB0 := hB
  simp only [kF, Bool.and_eq_true, Bool.or_eq_true, decide_eq_true_eq] at hB
  obtain ⟨⟨⟨⟨⟨hsel, hn⟩, htail⟩, hseq⟩, hall⟩, hFok⟩ := hB
  have hlen : (ops.toList.take n).length = n := by simp; omega
  have hget : ∀ k, k < n → (ops.toList.take n)[k]? = ops[k]? := fun k hk => by simp [hk]
  have hform : ∀ i o, i < n → ops[i]? = some o → (∀ e ∈ o.after, Region.binds .any e = true → e.on < i) ∧ ∀ j d, j < n → (ops[j]?).bind (·.dst) = some d → (j ≠ i → o.dst ≠ some d) ∧ (d ∈ o.looksAt ops → j < i ∧ ∃ e ∈ o.after, Region.binds .any e = true ∧ e.on = j) := fun i o hi ho => by
    have h1 := List.all_eq_true.1 hall i (List.mem_range.2 hi)
    simp only [ho, Bool.and_eq_true] at h1
    obtain ⟨h2, h3⟩ := h1
    refine ⟨fun e he hb => ?_, fun j d hj hd => ?_⟩
    · have := Array.all_eq_true_iff_forall_mem.1 h2 e he
      simpa [hb] using this
    · have h4 := List.all_eq_true.1 h3 j (List.mem_range.2 hj)
      simp only [hd, Bool.and_eq_true, Bool.or_eq_true, decide_eq_true_eq, bne_iff_ne, ne_eq] at h4
      refine ⟨fun hji => h4.1.resolve_left hji, fun hm => ?_⟩
      rcases h4.2 with h5 | ⟨h5, h6⟩
      · simp [hm] at h5
      · obtain ⟨e, he, hb⟩ := Array.any_eq_true'.1 h6
        simp only [Bool.and_eq_true, beq_iff_eq] at hb
        exact ⟨h5, e, he, hb.1, hb.2⟩
  have hdist : ∀ i j, i < (ops.toList.take n).length → j < (ops.toList.take n).length → j ≠ i → ∀ o, (ops.toList.take n)[i]? = some o → ∀ t, ((ops.toList.take n)[j]?).bind (·.dst) = some t → o.dst ≠ some t := fun i j hi hj hji o ho t hd => by
    rw [hlen] at hi hj
    rw [hget i hi] at ho
    rw [hget j hj] at hd
    exact ((hform i o hi ho).2 j t hj hd).1 hji
  have hFlt : ∀ f ∈ F, f < n ∧ ∃ o, ops[f]? = some o ∧ o.guard = none ∧ plainB o = true := fun f hf => by
    have h1 := List.all_eq_true.1 hFok.2 f hf
    simp only [Bool.and_eq_true, decide_eq_true_eq] at h1
    refine ⟨h1.1, ?_⟩
    have h2 := h1.2
    cases ho : ops[f]? with
    | none => rw [ho] at h2; cases h2
    | some o =>
      rw [ho] at h2
      simp only [Bool.and_eq_true, Option.isNone_iff_eq_none] at h2
      exact ⟨o, rfl, h2.1, h2.2⟩
  have hFs : F.Pairwise (· < ·) := hFok.1
  have hfin : ∀ (f : Nat) (listed : Array Bool) (vals : Nat → Value) (a : Act) (w : World), HeadInv .any ops n listed → Agrees (ops.toList.take n) ds a0 (fun j => listed.getD j false) vals a → Up w0 w →
      Facts ds w0 n (fun j => listed.getD j false) vals w → (∀ i, i < n → listed.getD i false = false → i ∈ F) → (F.filter fun j => !listed.getD j false).length ≤ f → wpAny P .any ops Q (f + (ops.size - n)) listed a w := fun f listed vals a w inv hag hup hfacts hall hlf => by
    have hD : ∀ i, i < n → (listed.getD i false = false ↔ i ∈ F.filter fun j => !listed.getD j false) := fun i hi => by
      rw [List.mem_filter]
      constructor
      · intro h; exact ⟨hall i hi h, by rw [h]; rfl⟩
      · intro h; simpa using h.2
    have hDF : ∀ f ∈ F.filter (fun j => !listed.getD j false), f ∈ F := fun f hf => (List.mem_filter.1 hf).1
    have hDs := hFs.filter (fun j => !listed.getD j false)
    have hsub := filter_mem_subs (fun j => !listed.getD j false) F
    generalize (F.filter fun j => !listed.getD j false) = D at *
    have hfull : listed = headD ops.size n D := by
      apply Array.ext_getElem?
      intro i
      rcases Nat.lt_or_ge i ops.size with h | h
      · have hr : (headD ops.size n D)[i]? = some (decide (i < n) && !D.contains i) := by simp [headD, h]
        rw [hr]
        have hi' : i < listed.size := by rw [inv.size]; exact h
        rw [Array.getElem?_eq_getElem hi']
        by_cases hin : i < n
        · have h1 := hD i hin
          have h2 : listed.getD i false = listed[i] := by simp [hi']
          rw [h2] at h1
          by_cases hm : i ∈ D
          · rw [h1.2 hm]; simp [hm]
          · have : listed[i] = true := by
              cases hL : listed[i] with
              | true => rfl
              | false => exact absurd (h1.1 hL) hm
            rw [this]; simp [hm, hin]
        · have := inv.tail i (by omega) h
          simp [hi'] at this
          simp [this, hin]
      · rw [Array.getElem?_eq_none (by rw [inv.size]; exact h), Array.getElem?_eq_none (by simp [headD]; exact h)]
    -- the floats' runs
    have hruns : ∀ (D : List Nat) (L : Nat → Bool) (a : Act), D.Pairwise (· < ·) → (∀ f ∈ D, f ∈ F) → (∀ j, j < n → L j = false → j ∈ D) → Agrees (ops.toList.take n) ds a0 L vals a →
        FlL P ops T (Dv ds vals) D a ∧ ∃ L', (∀ j, j < n → L' j = true) ∧ Agrees (ops.toList.take n) ds a0 L' vals (putD ops (Dv ds vals) D a) := fun D => by
      induction D with
      | nil => intro L a _ _ hL hag; exact ⟨trivial, L, fun j hj => (by
          cases h : L j with
          | true => rfl
          | false => exact absurd (hL j hj h) (by simp)), hag⟩
      | cons g D ihD =>
        intro L a hsD hDF hL hag
        have hgF := hDF g (List.mem_cons_self ..)
        obtain ⟨hgn, o, ho, hgu, hpl⟩ := hFlt g hgF
        have hpre : Agrees (ops.toList.take n) ds a0 (fun j => decide (j < g)) vals (putN (ops.toList.take n) ds vals a0 g) := putN_agrees _ ds vals a0 hdist g (by omega)
        have hlook : ∀ t ∈ o.looksAt ops, a.tmps[t]? = (putN (ops.toList.take n) ds vals a0 g).tmps[t]? := fun t ht => hag.same hpre fun j hj hd => by
          rw [hlen] at hj
          rw [hget j hj] at hd
          obtain ⟨hjg, e, he, hb, hon⟩ := ((hform g o hgn ho).2 j t hj hd).2 ht
          refine ⟨?_, by simpa using hjg⟩
          cases hLj : L j with
          | true => rfl
          | false =>
            rcases List.mem_cons.1 (hL j hj hLj) with rfl | hjD
            · omega
            · have := (List.pairwise_cons.1 hsD).1 j hjD
              omega
        have hex : execOp a.eval o = execOp (putN (ops.toList.take n) ds vals a0 g).eval o := execOp_agree (Region.noSelect_spec hsel g o · · ho) hlook
        have hFl : Fl P ops T (Dv ds vals) g a := ⟨o, ho, wanted_none' hgu, fun w hw => by rw [hex]; exact hFr vals g o hgF ho w hw⟩
        have hil : g < (ops.toList.take n).length := by rw [hlen]; exact hgn
        have hol : (ops.toList.take n)[g]? = some o := by rw [hget g hgn]; exact ho
        have hdist' : ∀ j, j < (ops.toList.take n).length → j ≠ g → ∀ t, ((ops.toList.take n)[j]?).bind (·.dst) = some t → o.dst ≠ some t := fun j hj hji t hd => hdist g j hil hj hji o hol t hd
        have hag' := hag.step (L' := fun j => L j || decide (j = g)) (vals' := vals) hil hol hdist' (by simp) (fun j hj => by simp [hj]) (fun _ _ _ => rfl)
        have hput : a.put o.dst (Dv ds vals g) = putF1 ops (Dv ds vals) g a := by simp [putF1, ho]
        rw [hput] at hag'
        have := ihD (fun j => L j || decide (j = g)) _ (List.pairwise_cons.1 hsD).2 (fun f hf => hDF f (List.mem_cons_of_mem _ hf)) (fun j hj hLj => by
          simp only [Bool.or_eq_false_iff, decide_eq_false_iff_not] at hLj
          rcases List.mem_cons.1 (hL j hj hLj.1) with rfl | h
          · exact absurd rfl hLj.2
          · exact h) hag'
        exact ⟨⟨hFl, this.1⟩, this.2⟩
    obtain ⟨hFl, L', hL', hag'⟩ := hruns D _ a hDs hDF (fun j hj hLj => (hD j hj).1 hLj) hag
    have hfin : Agrees (ops.toList.take n) ds a0 (fun j => decide (j < n)) vals (putN (ops.toList.take n) ds vals a0 n) := putN_agrees _ ds vals a0 hdist n (by omega)
    have hae : putD ops (Dv ds vals) D a = putN (ops.toList.take n) ds vals a0 n := by
      have h1 : (putD ops (Dv ds vals) D a).tmps = (putN (ops.toList.take n) ds vals a0 n).tmps := by
        apply Array.ext_getElem?
        intro t
        exact hag'.same hfin (fun j hj _ => ⟨hL' j (by rw [hlen] at hj; exact hj), by rw [hlen] at hj; simpa using hj⟩)
      have h2 : (putD ops (Dv ds vals) D a).defers = (putN (ops.toList.take n) ds vals a0 n).defers := by rw [hag'.defers, hfin.defers]
      generalize putD ops (Dv ds vals) D a = x at *
      cases x
      generalize putN (ops.toList.take n) ds vals a0 n = y at *
      cases y
      simp only at h1 h2
      rw [h1, h2]
    have hlis : ∀ i V f, i < n → ds[i]? = some (.any V f) → listed.getD i false = true := fun i V f hi hd => by
      cases hL : listed.getD i false with
      | true => rfl
      | false =>
        exact absurd hd (hFa i V f (hall i hi hL))
    have hf2 : Facts ds w0 n (fun _ => true) vals w := ⟨fun i V f hi _ hd => hfacts.told i V f hi (hlis i V f hi hd) hd, fun i j V V' hi hj hij _ _ h1 h2 => hfacts.apart i j V V' hi hj hij (hlis i V true hi h1) (hlis j V' true hj h2) h1 h2⟩
    have hw := hend vals w hup (apart2_of_facts hf2 n (Nat.le_refl _))
    rw [← hae] at hw
    have hfb := List.all_eq_true.1 hseq D hsub
    rw [← hfull] at hfb
    have := floatTail hsel _ n D listed a w hfb (hT0 w hup) hFl hw
    have h3 := wpAny_more_add (f - D.length) _ this
    rwa [show f - D.length + (D.length + (ops.size - n)) = f + (ops.size - n) by omega] at h3
  intro f
  induction f with
  | zero =>
    intro listed vals a w inv hag hup hfacts hc
    refine hfin 0 listed vals a w inv hag hup hfacts (fun i hi hun => ?_) (by omega)
    have := cnt_zero (L := fun j => listed.getD j false || F.contains j) (k := n) (by omega) i hi
    rw [hun] at this
    simpa using this
  | succ f ih =>
    intro listed vals a w inv hag hup hfacts hc
    by_cases hdone : ∀ i, i < n → listed.getD i false = false → i ∈ F
    · exact hfin (f + 1) listed vals a w inv hag hup hfacts hdone (by omega)
    · rw [show f + 1 + (ops.size - n) = (f + (ops.size - n)) + 1 by omega]
      obtain ⟨i0, hi0, hun0, hi0F⟩ : ∃ i, i < n ∧ listed.getD i false = false ∧ i ∉ F := by
        apply Classical.byContradiction
        intro hno
        exact hdone fun i hi hun => Classical.byContradiction fun hF => hno ⟨i, hi, hun, hF⟩
      have hsmall : ∀ i, i ∈ Region.ready .any ops listed → i < n := fun i hi => by
        rcases htail with he | ⟨hs, hch⟩
        · obtain ⟨_, o, ho, _⟩ := mem_ready.1 hi
          have := (Array.getElem?_eq_some_iff.1 ho).1
          omega
        · by_cases hlt : n < ops.size
          · apply Nat.lt_of_not_le
            intro hle
            have hs0 : i0 < listed.size := by rw [inv.size]; omega
            exact tail_waitsF hs hch hlt inv _ i0 rfl hi0 hi0F (getD_in hs0 hun0) i hle hi
          · obtain ⟨_, o, ho, _⟩ := mem_ready.1 hi
            have := (Array.getElem?_eq_some_iff.1 ho).1
            omega
      refine ⟨fun hnil => ?_, fun i hi => ?_⟩
      · -- the least one that is not listed may come up
        exfalso
        have hleast : ∀ m, m < n → listed.getD m false = false → False := fun m => by
          induction m using Nat.strongRecOn with
          | _ m ihm =>
            intro hm hmun
            have hms : m < ops.size := by omega
            have : m ∈ Region.ready .any ops listed := mem_ready.2 ⟨getD_in (by rw [inv.size]; exact hms) hmun, ops[m], Array.getElem?_eq_getElem hms, fun e he hb => by
              have hlt := (hform m _ hm (Array.getElem?_eq_getElem hms)).1 e he hb
              cases hL : listed.getD e.on false with
              | true => rfl
              | false => exact (ihm e.on hlt (by omega) hL).elim⟩
            rw [hnil] at this
            cases this
        exact hleast i0 hi0 hun0
      · have hin := hsmall i hi
        obtain ⟨hunT, o, ho, hdeps⟩ := mem_ready.1 hi
        have hun : listed.getD i false = false := getD_both hunT
        have his : i < listed.size := by rw [inv.size]; omega
        have hil : i < (ops.toList.take n).length := by rw [hlen]; exact hin
        have hol : (ops.toList.take n)[i]? = some o := by rw [hget i hin]; exact ho
        obtain ⟨s, hs, hd⟩ := hduty vals i o hin ho
        have hpre : Agrees (ops.toList.take n) ds a0 (fun j => decide (j < i)) vals (putN (ops.toList.take n) ds vals a0 i) := putN_agrees _ ds vals a0 hdist i (by omega)
        have hlook : ∀ t ∈ o.looksAt ops, a.tmps[t]? = (putN (ops.toList.take n) ds vals a0 i).tmps[t]? := fun t ht => hag.same hpre fun j hj hd => by
          rw [hlen] at hj
          rw [hget j hj] at hd
          obtain ⟨hji, e, he, hb, hon⟩ := ((hform i o hin ho).2 j t hj hd).2 ht
          exact ⟨by have := hdeps e he hb; rw [hon] at this; exact this, by simpa using hji⟩
        have hex : execOp a.eval o = execOp (putN (ops.toList.take n) ds vals a0 i).eval o := execOp_agree (Region.noSelect_spec hsel i o · · ho) hlook
        have hwa := wanted_agree (ops := ops) hlook
        have hlean : LeanOn o w (madeN ds vals i) := leanOn_of fun m hm hdep => by
          obtain ⟨hmi, hmd, hmv⟩ := mem_madeN hm
          obtain ⟨e, he, hb⟩ := Array.any_eq_true'.1 hdep
          simp only [Bool.and_eq_true, beq_iff_eq] at hb
          have hl := hdeps e he hb.1
          rw [hb.2] at hl
          rw [hmv]
          exact (hfacts.told m.i m.V m.f (by omega) hl hmd).1
        have hset : ∀ j, j ≠ i → (listed.setIfInBounds i true).getD j false = listed.getD j false := fun j hj => getD_set_ne false (Ne.symm hj)
        have hseti : (listed.setIfInBounds i true).getD i false = true := by simp [his]
        have hcnt : (F.filter fun j => !(listed.setIfInBounds i true).getD j false).length + cnt (fun j => (listed.setIfInBounds i true).getD j false || F.contains j) n ≤ f := by
          by_cases hiF : i ∈ F
          · have h1 : (F.filter fun j => !(listed.setIfInBounds i true).getD j false).length < (F.filter fun j => !listed.getD j false).length := filter_lt hiF (by simp [hun]) (by simp [hseti]) (fun j hj => by
              by_cases hji : j = i
              · subst hji; simp [hseti] at hj
              · rw [hset j hji] at hj; exact hj)
            have h2 : cnt (fun j => (listed.setIfInBounds i true).getD j false || F.contains j) n = cnt (fun j => listed.getD j false || F.contains j) n := cnt_same n fun j _ => by
              by_cases hji : j = i
              · subst hji; simp [hiF]
              · rw [hset j hji]
            omega
          · have h1 : (F.filter fun j => !(listed.setIfInBounds i true).getD j false) = F.filter fun j => !listed.getD j false := List.filter_congr fun j hj => by
              have hji : j ≠ i := fun e => hiF (e ▸ hj)
              rw [hset j hji]
            have h2 := cnt_one (L := fun j => listed.getD j false || F.contains j) (L' := fun j => (listed.setIfInBounds i true).getD j false || F.contains j) (i := i) (by simp [hun, hiF]) (by simp [hseti]) (fun j hj => by simp only [hset j hj]) n hin
            rw [h1]
            omega
        have hdist' : ∀ j, j < (ops.toList.take n).length → j ≠ i → ∀ t, ((ops.toList.take n)[j]?).bind (·.dst) = some t → o.dst ≠ some t := fun j hj hji t hd => hdist i j hil hj hji o hol t hd
        have inv' := inv.set hi hin
        -- with a value that is known
        have keyD : ∀ d, Dv ds vals i = d → (∀ V f, s ≠ .any V f) → ∀ w', Up w w' → wpAny P .any ops Q (f + (ops.size - n)) (listed.setIfInBounds i true) (a.put o.dst d) w' := fun d hDv hna w' huw => by
          have := hag.step (L' := fun j => (listed.setIfInBounds i true).getD j false) (vals' := vals) hil hol hdist' hseti hset (fun _ _ _ => rfl)
          rw [hDv] at this
          refine ih _ vals _ w' inv' this (hup.trans huw) ⟨fun k V f hk hL hdk => ?_, fun k m V V' hk hm hkm hLk hLm hdk hdm => ?_⟩ hcnt
          · have hki : k ≠ i := fun e => by subst e; rw [hs] at hdk; exact hna _ _ (Option.some.inj hdk)
            replace hL : listed.getD k false = true := (hset k hki).symm.trans hL
            have h1 := hfacts.told k V f hk hL hdk
            obtain ⟨s', hs', hd'⟩ := hduty vals k ops[k] hk (Array.getElem?_eq_getElem (by omega))
            rw [hdk] at hs'
            obtain rfl := Option.some.inj hs'
            exact ⟨hd'.2.1 _ _ _ h1.1 huw, fun hf b hb => ⟨(h1.2 hf b hb).1, Nat.lt_of_lt_of_le (h1.2 hf b hb).2 huw.size⟩⟩
          · have hki : k ≠ i := fun e => by subst e; rw [hs] at hdk; exact hna _ _ (Option.some.inj hdk)
            have hmi : m ≠ i := fun e => by subst e; rw [hs] at hdm; exact hna _ _ (Option.some.inj hdm)
            replace hLk : listed.getD k false = true := (hset k hki).symm.trans hLk
            replace hLm : listed.getD m false = true := (hset m hmi).symm.trans hLm
            exact hfacts.apart k m V V' hk hm hkm hLk hLm hdk hdm
        have keyA : ∀ V fr, s = .any V fr → ∀ u w', Got V fr w u w' → wpAny P .any ops Q (f + (ops.size - n)) (listed.setIfInBounds i true) (a.put o.dst u) w' := fun V fr hsa u w' hgot => by
          subst hsa
          obtain ⟨huw, hVu, hfresh⟩ := hgot
          let vals' : Nat → Value := fun j => if j = i then u else vals j
          have hvi : vals' i = u := by simp [vals']
          have hvj : ∀ j, j ≠ i → vals' j = vals j := fun j hj => by simp [vals', hj]
          have hDv : Dv ds vals' i = u := by simp [Dv, hs, hvi]
          have := hag.step (L' := fun j => (listed.setIfInBounds i true).getD j false) (vals' := vals') hil hol hdist' hseti hset (fun j hLj hj => by
            have hsj : ∀ q, ds[j]? = some (.same q) → vals' q = vals q := fun q hq => hvj q fun e => by
              subst e
              have hjn : j < n := Nat.lt_of_not_le fun hle => by
                rcases Nat.lt_or_ge j ops.size with h | h
                · have := getD_both (inv.tail j hle h)
                  rw [this] at hLj
                  cases hLj
                · have : listed.getD j false = false := by simp [Array.getElem?_eq_none (show listed.size ≤ j by rw [inv.size]; exact h)]
                  rw [this] at hLj
                  cases hLj
              obtain ⟨s', hs', hd'⟩ := hduty vals j ops[j] hjn (Array.getElem?_eq_getElem (by omega))
              rw [hq] at hs'
              obtain rfl := Option.some.inj hs'
              obtain ⟨e, he, hb⟩ := Array.any_eq_true'.1 hd'.2.1
              simp only [Bool.and_eq_true, beq_iff_eq] at hb
              have := inv.closed j ops[j] (Array.getElem?_eq_getElem (by omega)) hLj e he hb.1
              rw [hb.2, hun] at this
              cases this
            unfold Dv
            cases hdj : ds[j]? with
            | none => exact hvj j hj
            | some sl => cases sl with
              | det d => rfl
              | pur d => rfl
              | any V f => exact hvj j hj
              | same q => exact hsj q hdj)
          rw [hDv] at this
          have told' : ∀ k V f, k < n → (listed.setIfInBounds i true).getD k false = true → ds[k]? = some (.any V f) → k ≠ i → V (vals k) w' ∧ (f = true → ∀ b, blk (vals k) = some b → w0.heap.size ≤ b ∧ b < w.heap.size) := fun k V f hk hL hdk hki => by
            rw [hset k hki] at hL
            have h1 := hfacts.told k V f hk hL hdk
            obtain ⟨s', hs', hd'⟩ := hduty vals k ops[k] hk (Array.getElem?_eq_getElem (by omega))
            rw [hdk] at hs'
            obtain rfl := Option.some.inj hs'
            exact ⟨hd'.2.1 _ _ _ h1.1 huw, h1.2⟩
          refine ih _ vals' _ w' inv' this (hup.trans huw) ⟨fun k V f hk hL hdk => ?_, fun k m V1 V2 hk hm hkm hLk hLm hdk hdm b c hb hc => ?_⟩ hcnt
          · by_cases hki : k = i
            · subst hki
              rw [hs] at hdk
              obtain ⟨rfl, rfl⟩ : V = _ ∧ fr = f := by have := Option.some.inj hdk; injection this with h1 h2; exact ⟨h1.symm, h2⟩
              rw [hvi]
              exact ⟨hVu, fun hf b hb => ⟨Nat.le_trans hup.size (hfresh hf b hb).1, (hfresh hf b hb).2⟩⟩
            · rw [hvj k hki]
              have h1 := told' k V f hk hL hdk hki
              exact ⟨h1.1, fun hf b hb => ⟨(h1.2 hf b hb).1, Nat.lt_of_lt_of_le (h1.2 hf b hb).2 huw.size⟩⟩
          · by_cases hki : k = i
            · subst hki
              rw [hs] at hdk
              obtain ⟨_, rfl⟩ : V = _ ∧ fr = true := by have := Option.some.inj hdk; injection this with h1 h2; exact ⟨h1, h2⟩
              rw [hvi] at hb
              rw [hvj m (Ne.symm hkm)] at hc
              have h1 := told' m V2 true hm hLm hdm (Ne.symm hkm)
              have h2 := (h1.2 rfl c hc).2
              have h3 := (hfresh rfl b hb).1
              omega
            · by_cases hmi : m = i
              · subst hmi
                rw [hs] at hdm
                obtain ⟨_, rfl⟩ : V = _ ∧ fr = true := by have := Option.some.inj hdm; injection this with h1 h2; exact ⟨h1, h2⟩
                rw [hvi] at hc
                rw [hvj k hki] at hb
                have h1 := told' k V1 true hk hLk hdk hki
                have h2 := (h1.2 rfl b hb).2
                have h3 := (hfresh rfl c hc).1
                omega
              · rw [hvj k hki] at hb
                rw [hvj m hmi] at hc
                replace hLk : listed.getD k false = true := (hset k hki).symm.trans hLk
                replace hLm : listed.getD m false = true := (hset m hmi).symm.trans hLm
                exact hfacts.apart k m V1 V2 hk hm hkm hLk hLm hdk hdm b c hb hc
        unfold wpOp
        simp only [ho]
        cases s with
        | det d =>
          rcases hd with ⟨hw, hq⟩ | ⟨hw, rfl⟩
          · rw [hwa, if_pos hw]
            refine .inl ?_
            have hq' := hq w hup hlean
            unfold Oper.quietAt at hq'
            rw [← hex] at hq'
            unfold Oper.wp
            generalize (execOp a.eval o).run P w = r at hq'
            cases r with
            | ok nx w' =>
              cases nx <;> simp only [Oper.quietUpon] at hq' <;> simp only [Oper.upon]
              case value u =>
                obtain ⟨rfl, rfl⟩ := hq'
                exact keyD _ (by simp [Dv, hs]) (fun _ _ => nofun) _ (Up.refl _)
              case skip =>
                obtain ⟨rfl, rfl⟩ := hq'
                exact keyD _ (by simp [Dv, hs]) (fun _ _ => nofun) _ (Up.refl _)
              case enter g args =>
                obtain ⟨rfl, hc⟩ := hq'
                refine hc.mono fun e w'' ⟨he, hw''⟩ => ?_
                subst he
                exact keyD _ (by simp [Dv, hs]) (fun _ _ => nofun) _ hw''
            | halt x w' => simp only [Oper.quietUpon] at hq'
          · rw [hwa, if_neg (by rw [hw]; simp)]
            exact keyD _ (by simp [Dv, hs]) (fun _ _ => nofun) _ (Up.refl _)
        | pur d =>
          obtain ⟨hg, hT, hr⟩ := hd
          rw [if_pos (by simp [Region.wanted, hg])]
          refine .inl ?_
          unfold Oper.wp
          rw [hex, hr w (hT w hup)]
          exact keyD _ (by simp [Dv, hs]) (fun _ _ => nofun) _ (Up.refl _)
        | same q =>
          obtain ⟨hw, _, hhas, hq⟩ := hd
          rw [hwa, if_pos hw]
          refine .inl ?_
          have hq' := hq w hup hlean
          rw [getM_madeN hhas] at hq'
          unfold Oper.quietAt at hq'
          rw [← hex] at hq'
          unfold Oper.wp
          generalize (execOp a.eval o).run P w = r at hq'
          cases r with
          | ok nx w' =>
            cases nx <;> simp only [Oper.quietUpon] at hq' <;> simp only [Oper.upon]
            case value u =>
              obtain ⟨rfl, rfl⟩ := hq'
              exact keyD _ (by simp [Dv, hs]) (fun _ _ => nofun) _ (Up.refl _)
            case skip =>
              obtain ⟨rfl, h1⟩ := hq'
              exact keyD _ (by simp [Dv, hs, h1]) (fun _ _ => nofun) _ (Up.refl _)
            case enter g args =>
              obtain ⟨rfl, hc⟩ := hq'
              refine hc.mono fun e w'' ⟨he, hw''⟩ => ?_
              subst he
              exact keyD _ (by simp [Dv, hs]) (fun _ _ => nofun) _ hw''
          | halt x w' => simp only [Oper.quietUpon] at hq'
        | any V fr =>
          obtain ⟨hw, _, hq⟩ := hd
          rw [hwa, if_pos hw]
          refine .inl ?_
          have hq' := hq w hup hlean
          unfold freshAt at hq'
          rw [← hex] at hq'
          unfold Oper.wp
          generalize (execOp a.eval o).run P w = r at hq'
          cases r with
          | ok nx w' =>
            cases nx <;> simp only [freshUpon] at hq' <;> simp only [Oper.upon]
            case value u => exact keyA _ _ rfl _ _ hq'
            case enter g args =>
              obtain ⟨rfl, hc⟩ := hq'
              refine hc.mono fun e w'' ⟨u, he, hg⟩ => ?_
              subst he
              exact keyA _ _ rfl _ _ hg
          | halt x w' => simp only [freshUpon] at hq'

theorem wp_region_lateT {id : Nat} {Q : Exit → Act → World → Prop} {T : World → Prop} {a : Act} {w : World} {l : List Oper} (n : Nat) (F : List Nat) (ds : List Slot) (hm : P.follows .mixedOrders = true) (hB : kF l.toArray n F = true) (hT0 : ∀ w', Up w.drew w' → T w')
    (hFr : ∀ (vals : Nat → Value) g o s, g ∈ F → l.toArray[g]? = some o → ds[g]? = some s → duty P l.toArray w.drew TT o (putN (l.take n) ds vals a g) (madeN ds vals g) s → ∀ w', T w' → (execOp (putN (l.take n) ds vals a g).eval o).run P w' = .ok (.value (Dv ds vals g)) w')
    (hFa : ∀ f V fr, f ∈ F → ds[f]? ≠ some (.any V fr)) (hcn : F.length + cnt (fun j => F.contains j) n ≤ n)
    (h : wpK P l.toArray w.drew TT (fun a' G => ∀ w', Up w.drew w' → Apart2 w.drew w' G → wpListU P l.toArray T Q (l.drop n) a' w') (l.take n) ds 0 a []) : (Code.region id l.toArray true).wp P Q a w := by
  have hn : n ≤ l.length := by
    simp only [kF, Bool.and_eq_true, decide_eq_true_eq] at hB
    simpa using hB.1.1.1.1.2
  have htl : (l.take n).length = n := by simp; omega
  have hi := fun vals => wpK_inst (P := P) (ops := l.toArray) (w0 := w.drew) (l.take n) ds vals a (l.take n) ds 0 (by simp) (fun k => by simp) (fun k => by simp) h
  refine wp_region_any hm ?_
  have h0 : ∀ j, (Array.replicate l.toArray.size false).getD j false = false := fun j => getD_replicate_false _ _
  have := kripkeF (P := P) (ops := l.toArray) (w0 := w.drew) (n := n) (F := F) (T := T) (ds := ds) (a0 := a) (Q := Q) hB hT0
    (fun vals g o hg ho w' hw' => by
      have hgn := (kF_float hB g hg).1
      obtain ⟨s, hs, hd⟩ := (hi vals).1 g o (Nat.zero_le _) (by simpa [hgn] using ho)
      exact hFr vals g o s hg ho hs hd w' hw') hFa
    (fun vals k o hk ho => (hi vals).1 k o (Nat.zero_le _) (by simpa [hk] using ho))
    (fun vals w' hu ha => by
      have := (hi vals).2 w' hu (by rw [htl]; exact ha)
      rw [htl] at this
      simpa using this)
    n (Array.replicate l.toArray.size false) (fun _ => undef) a w.drew
    ⟨by simp, fun j oj _ hl => (by rw [getD_replicate_false] at hl; cases hl), fun t _ ht => getD_in (by simpa using ht) (getD_replicate_false _ _)⟩
    ⟨rfl, rfl, fun _ _ => rfl, fun j t _ hl => (by simp only [getD_replicate_false] at hl; cases hl)⟩ (Up.refl _)
    ⟨fun i V f _ hl => (by simp only [getD_replicate_false] at hl; cases hl), fun i j V V' _ _ _ hl => (by simp only [getD_replicate_false] at hl; cases hl)⟩ (by
      have e1 : (F.filter fun j => !(Array.replicate l.toArray.size false).getD j false) = F := List.filter_eq_self.2 fun j _ => by rw [h0]; rfl
      have e2 : cnt (fun j => (Array.replicate l.toArray.size false).getD j false || F.contains j) n = cnt (fun j => F.contains j) n := cnt_same n fun j _ => by rw [h0]; rfl
      rw [e1, e2]
      exact hcn)
  rwa [show n + (l.toArray.size - n) = l.toArray.size by simp; omega] at this
def isPurS : Slot → Bool
  | .pur _ => true
  | _ => false
theorem wp_region_pure {id : Nat} {Q : Exit → Act → World → Prop} {a : Act} {w : World} {l : List Oper} (T : World → Prop) (n : Nat) (F : List Nat) (ds : List Slot) (hm : P.follows .mixedOrders = true) (bs : List Bool) (hB : kF l.toArray n F = true) (hbs : ds.map isPurS = bs) (hfd : (F.all fun f => (bs[f]?).getD false) = true)
    (hcn : F.length + cnt (fun j => F.contains j) n ≤ n)
    (hT0 : ∀ w', Up w.drew w' → T w')
    (h : wpK P l.toArray w.drew T (fun a' G => ∀ w', Up w.drew w' → Apart2 w.drew w' G → wpListU P l.toArray T Q (l.drop n) a' w') (l.take n) ds 0 a []) : (Code.region id l.toArray true).wp P Q a w := by
  subst hbs
  have hp : ∀ f ∈ F, ∃ d, ds[f]? = some (.pur d) := fun f hf => by
    have h1 := List.all_eq_true.1 hfd f hf
    rw [List.getElem?_map] at h1
    cases hd : ds[f]? with
    | none => rw [hd] at h1; cases h1
    | some s => cases s with
      | pur d => exact ⟨d, rfl⟩
      | det d => rw [hd] at h1; cases h1
      | any V f => rw [hd] at h1; cases h1
      | same j => rw [hd] at h1; cases h1
  refine wp_region_lateT (T := T) n F ds hm hB hT0 (fun vals g o s hg ho hs hd w' hw' => ?_) (fun f V fr hf hd => ?_) hcn h
  · obtain ⟨d, hdd⟩ := hp g hg
    rw [hdd] at hs
    obtain rfl := Option.some.inj hs
    have hDv : Dv ds vals g = d := by simp [Dv, hdd]
    rw [hDv]
    exact hd.2.2 w' hw'
  · obtain ⟨d, hdd⟩ := hp f hf
    rw [hd] at hdd
    cases hdd

theorem wrapQ_k {L : Act → World → Prop} {a : Act} {w : World} (h : L a w) : wrapQ L .normal a w := h
theorem late_consT {T : World → Prop} {Q : Exit → Act → World → Prop} {o : Oper} {l : List Oper} {a : Act} {w : World} (hT : T w) (h : wpList P ops (wrapQ (wpListU P ops T Q l)) [o] a w) : wpListU P ops T Q (o :: l) a w := ⟨hT, h⟩
theorem late_nilT {T : World → Prop} {Q : Exit → Act → World → Prop} {a : Act} {w : World} (hT : T w) (h : Q .normal a w) : wpListU P ops T Q [] a w := ⟨hT, h⟩
theorem wpK_nil {K : Act → List Made → Prop} {i : Nat} {a : Act} {F : List Made} (h : K a F) : wpK P ops w0 TT K [] [] i a F := h
theorem wpK_ops {K : Act → List Made → Prop} {o : Oper} {l : List Oper} {d : Value} {ds : List Slot} {i : Nat} {a : Act} {F : List Made} (hg : o.guard = none)
    (h : ∀ w, Up w0 w → o.quietAt P a (Up w) w d) (hk : wpK P ops w0 TT K l ds (i + 1) (a.put o.dst d) F) : wpK P ops w0 TT K (o :: l) (.det d :: ds) i a F :=
  ⟨.inl ⟨by simp [Region.wanted, hg], fun w hu _ => h w hu⟩, hk⟩
theorem wpK_pur {K : Act → List Made → Prop} {o : Oper} {l : List Oper} {d : Value} {ds : List Slot} {i : Nat} {a : Act} {F : List Made} (hg : o.guard = none)
    (hT : ∀ w, Up w0 w → TT w) (h : ∀ w, TT w → (execOp a.eval o).run P w = .ok (.value d) w) (hk : wpK P ops w0 TT K l ds (i + 1) (a.put o.dst d) F) : wpK P ops w0 TT K (o :: l) (.pur d :: ds) i a F :=
  ⟨⟨hg, hT, h⟩, hk⟩
theorem wpK_no {K : Act → List Made → Prop} {o : Oper} {l : List Oper} {ds : List Slot} {i : Nat} {a : Act} {F : List Made} (hg : Region.wanted o (yielded ops a.tmps) = false)
    (hk : wpK P ops w0 TT K l ds (i + 1) (a.put o.dst undef) F) : wpK P ops w0 TT K (o :: l) (.det undef :: ds) i a F :=
  ⟨.inr ⟨hg, rfl⟩, hk⟩
theorem wpK_any {K : Act → List Made → Prop} {o : Oper} {l : List Oper} {V : Value → World → Prop} {f : Bool} {ds : List Slot} {i : Nat} {a : Act} {F : List Made} (hg : o.guard = none) (hs : Stab V)
    (h : ∀ w, Up w0 w → LeanOn o w F → freshAt P o a w V f) (hk : ∀ v, wpK P ops w0 TT K l ds (i + 1) (a.put o.dst v) (⟨i, v, V, f⟩ :: F)) : wpK P ops w0 TT K (o :: l) (.any V f :: ds) i a F :=
  ⟨⟨by simp [Region.wanted, hg], hs, h⟩, hk⟩
end

/-! ### Steps of a walk -/
section
variable {P : Program} {ops : Array Oper} {rest : List Oper} {o : Oper} {a : Act} {w : World} {Q : Exit → Act → World → Prop}

structure Aside0 (p : Prop) : Prop where mk :: (out : p)

structure Sto (b : Nat) (w w' : World) : Prop where
  os : w'.os = w.os
  tape : w'.tape = w.tape
  output : w'.output = w.output
  size : w'.heap.size = w.heap.size
  block : ∀ k, k ≠ b → w'.heap[k]? = w.heap[k]?
theorem Sto.refl (b : Nat) (w : World) : Sto b w w := ⟨rfl, rfl, rfl, rfl, fun _ _ => rfl⟩
theorem Sto.setCell {b : Nat} {w w' : World} (h : Sto b w w') (o : Nat) (v : Value) : Sto b w (w'.setCell ⟨b, o, none⟩ v) :=
  ⟨h.os, h.tape, h.output, (World.size_setCell ..).trans h.size, fun k hk => (Below.heap_setCell w' ⟨b, o, none⟩ v k hk).trans (h.block k hk)⟩
theorem Up.sto {a b c : World} {k : Nat} (h : Up a b) (hk : a.heap.size ≤ k) (s : Sto k b c) : Up a c :=
  ⟨h.out.trans ⟨s.os, s.tape, s.output, by rw [s.size]; exact Nat.le_refl _, fun i hi => s.block i (by omega)⟩⟩

structure Blk (w : World) (b : Nat) (cs : List Value) (T : TypeId) : Prop where mk :: (out : w.heap[b]? = some (.cells cs.toArray T (0, 0)))
theorem Blk.lt {w : World} {b : Nat} {cs : List Value} {T : TypeId} (h : Blk w b cs T) : b < w.heap.size := (Array.getElem?_eq_some_iff.1 h.out).1
theorem Blk.up {w w' : World} {b : Nat} {cs : List Value} {T : TypeId} (h : Blk w b cs T) (u : Up w w') : Blk w' b cs T := ⟨(u.block h.lt).trans h.out⟩
theorem Blk.sto {w w' : World} {b k : Nat} {cs : List Value} {T : TypeId} (h : Blk w b cs T) (s : Sto k w w') (hk : b ≠ k) : Blk w' b cs T := ⟨(s.block b hk).trans h.out⟩
theorem Blk.cell {w : World} {b : Nat} {cs : List Value} {T : TypeId} (h : Blk w b cs T) {o : Nat} {v : Value} (hc : cs[o]? = some v) : w.cell? ⟨b, o, none⟩ = some v := by
  simp [World.cell?, h.out, hc]
theorem Blk.free {w : World} {b : Nat} {cs : List Value} {T : TypeId} (h : Blk w b cs T) (o : Nat) : w.frozen? ⟨b, o, none⟩ = false := by
  simp [World.frozen?, h.out]
theorem Blk.setCell {w : World} {b : Nat} {cs : List Value} {T : TypeId} (h : Blk w b cs T) (o : Nat) (v : Value) : Blk (w.setCell ⟨b, o, none⟩ v) b (cs.set o v) T :=
  ⟨by simp [World.setCell, Array.getElem?_modify, h.out]⟩
theorem Blk.alloc (w : World) (cs : List Value) (T : TypeId) : Blk (w.alloc (.cells cs.toArray T)) w.heap.size cs T := ⟨by show (w.heap.push _)[w.heap.size]? = _; simp⟩

theorem wp_hide {c : Code} (h : ∀ Q' : Exit → Act → World → Prop, (∀ e a w, Q e a w → Q' e a w) → c.wp P Q' a w) : c.wp P Q a w := h Q fun _ _ _ h => h

theorem step_new {cs : List Value} {T : TypeId} {f : Nat → Value} (hg : o.guard = none) (hrun : (execOp a.eval o).run P w = .ok (.value (f w.heap.size)) (w.alloc (.cells cs.toArray T)))
    (k : ∀ b w', Up w w' → w.heap.size ≤ b → Blk w' b cs T → wpList P ops Q rest (a.put o.dst (f b)) w') : wpList P ops Q (o :: rest) a w := by
  refine wpList_plain hg fun K hK => ?_
  unfold Oper.wp
  rw [hrun]
  exact hK _ _ (k _ _ ((Up.refl w).alloc _) (Nat.le_refl _) (Blk.alloc w cs T))

theorem step_store {b : Nat} {cs' : List Value} {T : TypeId} {W' : World} (hg : o.guard = none) (hd : o.dst = none) (hrun : (execOp a.eval o).run P w = .ok .skip W') (hs : Sto b w W') (hb : Blk W' b cs' T)
    (k : ∀ w', Sto b w w' → Blk w' b cs' T → wpList P ops Q rest a w') : wpList P ops Q (o :: rest) a w := by
  refine wpList_plain hg fun K hK => ?_
  unfold Oper.wp
  rw [hrun]
  refine hK _ _ ?_
  rw [hd]
  exact k _ hs hb

theorem step_no (hg : Region.wanted o (yielded ops a.tmps) = false) (k : wpList P ops Q rest (a.put o.dst undef) w) : wpList P ops Q (o :: rest) a w := by
  refine wpList_step fun K hK => ?_
  rw [if_neg (by rw [hg]; exact Bool.false_ne_true)]
  exact hK _ _ k
theorem step_new_yes {cs : List Value} {T : TypeId} {f : Nat → Value} (hg : Region.wanted o (yielded ops a.tmps) = true) (hrun : (execOp a.eval o).run P w = .ok (.value (f w.heap.size)) (w.alloc (.cells cs.toArray T)))
    (k : ∀ b w', Up w w' → w.heap.size ≤ b → Blk w' b cs T → wpList P ops Q rest (a.put o.dst (f b)) w') : wpList P ops Q (o :: rest) a w := by
  refine wpList_step fun K hK => ?_
  rw [if_pos hg]
  unfold Oper.wp
  rw [hrun]
  exact hK _ _ (k _ _ ((Up.refl w).alloc _) (Nat.le_refl _) (Blk.alloc w cs T))

theorem step_call {f : FuncId} {args : Array Value} {R : Ending → World → Prop} (hg : Region.wanted o (yielded ops a.tmps) = true) (hrun : (execOp a.eval o).run P w = .ok (.enter f args) w) (h : Calls P f args w R)
    (k : ∀ e w', R e w' → ∃ v, e = .returned v ∧ wpList P ops Q rest (a.put o.dst v) w') : wpList P ops Q (o :: rest) a w := by
  refine wpList_step fun K hK => ?_
  rw [if_pos hg]
  unfold Oper.wp
  rw [hrun]
  refine h.mono fun e w' hR => ?_
  obtain ⟨v, rfl, hk⟩ := k e w' hR
  exact hK _ _ hk
theorem nm1 {α : Type} {l : List α} {i : Nat} {a : α} : l.toArray.setIfInBounds i a = (l.set i a).toArray := List.setIfInBounds_toArray ..
theorem nm2 {α : Type} {x y : α} {l : List α} : (x :: l).set 0 y = y :: l := List.set_cons_zero ..
theorem nm3 {α : Type} {x y : α} {l : List α} {n : Nat} : (x :: l).set (n + 1) y = x :: l.set n y := List.set_cons_succ ..
theorem wlit {n m : Int} (h : ((n + 9223372036854775808) % 18446744073709551616 - 9223372036854775808 == m) = true) : wrap64 n = m := by unfold wrap64; simpa using h
theorem i64_w (n : Int) : IntKind.i64.wrap n = wrap64 n := by unfold wrap64; exact IntKind.wrap_i64 n
def PtrTo (cs : List Value) (T : TypeId) : Value → World → Prop := fun v w => ∃ b, v = .pointer (some ⟨b, 0, none⟩) ∧ Blk w b cs T
theorem stab_ptr (cs : List Value) (T : TypeId) : Stab (PtrTo cs T) := fun _ _ _ ⟨b, e, h⟩ hu => ⟨b, e, h.up hu⟩
theorem fresh_ptr {cs : List Value} {T : TypeId} (hrun : (execOp a.eval o).run P w = .ok (.value (.pointer (some ⟨w.heap.size, 0, none⟩))) (w.alloc (.cells cs.toArray T))) : freshAt P o a w (PtrTo cs T) true := by
  unfold freshAt
  rw [hrun]
  refine ⟨(Up.refl w).alloc _, ⟨_, rfl, Blk.alloc w cs T⟩, fun _ b hb => ?_⟩
  have : w.heap.size = b := by simpa [blk] using hb
  subst this
  simp
def SlTo (n : Nat) (cs : List Value) (T : TypeId) (base : Nat) : Value → World → Prop := fun v w => ∃ b, v = .slice (some ⟨b, 0, none⟩) n n ∧ Blk w b cs T ∧ base ≤ b
theorem stab_sl (n : Nat) (cs : List Value) (T : TypeId) (base : Nat) : Stab (SlTo n cs T base) := fun _ _ _ ⟨b, e, h, hb⟩ hu => ⟨b, e, h.up hu, hb⟩
theorem fresh_sl {n : Nat} {cs : List Value} {T : TypeId} {base : Nat} (hrun : (execOp a.eval o).run P w = .ok (.value (.slice (some ⟨w.heap.size, 0, none⟩) n n)) (w.alloc (.cells cs.toArray T))) (hb : base ≤ w.heap.size) : freshAt P o a w (SlTo n cs T base) false := by
  unfold freshAt
  rw [hrun]
  exact ⟨(Up.refl w).alloc _, ⟨_, rfl, Blk.alloc w cs T, hb⟩, nofun⟩
theorem wpK_yesU {w0 : World} {K : Act → List Made → Prop} {l : List Oper} {d : Value} {ds : List Slot} {i : Nat} {F : List Made} (hg : Region.wanted o (yielded ops a.tmps) = true)
    (h : ∀ w, Up w0 w → o.quietAt P a (Up w) w d) (hk : wpK P ops w0 TT K l ds (i + 1) (a.put o.dst d) F) : wpK P ops w0 TT K (o :: l) (.det d :: ds) i a F :=
  ⟨.inl ⟨hg, fun w hu _ => h w hu⟩, hk⟩
end

/-! ### Rows: slices of elements of a fixed number of cells -/
structure Enc (α : Type) where
  enc : α → List Value
  sz : Nat
  pos : 0 < sz
  len : ∀ x, (enc x).length = sz
  one : ∀ x, ∀ u ∈ enc x, u.oneCell' = true
def eI : Enc Int := ⟨fun x => [.int .i64 x], 1, by omega, fun _ => rfl, by simp [Value.oneCell']⟩
def eU8 : Enc Int := ⟨fun x => [.int .u8 x], 1, by omega, fun _ => rfl, by simp [Value.oneCell']⟩
def eB : Enc Bool := ⟨fun x => [.bool x], 1, by omega, fun _ => rfl, by simp [Value.oneCell']⟩
def e2 : Enc (Int × Int) := ⟨fun x => [.int .i64 x.1, .int .i64 x.2], 2, by omega, fun _ => rfl, by simp [Value.oneCell']⟩
def e3 : Enc (Int × Int × Int) := ⟨fun x => [.int .i64 x.1, .int .i64 x.2.1, .int .i64 x.2.2], 3, by omega, fun _ => rfl, by simp [Value.oneCell']⟩
def e4 : Enc (Int × Int × Int × Int) := ⟨fun x => [.int .i64 x.1, .int .i64 x.2.1, .int .i64 x.2.2.1, .int .i64 x.2.2.2], 4, by omega, fun _ => rfl, by simp [Value.oneCell']⟩
def e6 : Enc (Int × Int × Int × Int × Int × Int) := ⟨fun x => [.int .i64 x.1, .int .i64 x.2.1, .int .i64 x.2.2.1, .int .i64 x.2.2.2.1, .int .i64 x.2.2.2.2.1, .int .i64 x.2.2.2.2.2], 6, by omega, fun _ => rfl, by simp [Value.oneCell']⟩
def e8 : Enc (Int × Int × Int × Int × Int × Int × Int × Int) := ⟨fun x => [.int .i64 x.1, .int .i64 x.2.1, .int .i64 x.2.2.1, .int .i64 x.2.2.2.1, .int .i64 x.2.2.2.2.1, .int .i64 x.2.2.2.2.2.1, .int .i64 x.2.2.2.2.2.2.1, .int .i64 x.2.2.2.2.2.2.2], 8, by omega, fun _ => rfl, by simp [Value.oneCell']⟩

section
variable {α : Type} {E : Enc α} {w w' : World} {A : Option Addr} {xs : List α} {T : TypeId} {base : Nat} {v : Value}
def Enc.flat (E : Enc α) (xs : List α) : List Value := xs.flatMap E.enc
theorem Enc.flat_len (E : Enc α) (xs : List α) : (E.flat xs).length = xs.length * E.sz := by
  unfold Enc.flat
  induction xs with
  | nil => simp
  | cons x xs ih => rw [List.flatMap_cons, List.length_append, ih, E.len, List.length_cons, Nat.add_mul]; omega
theorem Enc.flat_append (E : Enc α) (xs ys : List α) : E.flat (xs ++ ys) = E.flat xs ++ E.flat ys := by simp [Enc.flat]
theorem Enc.flat_one (E : Enc α) (xs : List α) : ∀ u ∈ E.flat xs, u.oneCell' = true := fun u hu => by
  obtain ⟨x, _, hx⟩ := List.mem_flatMap.1 hu
  exact E.one x u hx
theorem Enc.flat_get (E : Enc α) : ∀ (xs : List α) (i : Nat) (x : α), xs[i]? = some x → ∀ j u, (E.enc x)[j]? = some u → (E.flat xs)[i * E.sz + j]? = some u
  | [], i, x, h => by simp at h
  | y :: ys, 0, x, h => fun j u hu => by
    obtain rfl : y = x := by simpa using h
    have hj := (List.getElem?_eq_some_iff.1 hu).1
    simp only [Enc.flat, List.flatMap_cons, Nat.zero_mul, Nat.zero_add]
    rw [List.getElem?_append_left hj]
    exact hu
  | y :: ys, i + 1, x, h => fun j u hu => by
    have := Enc.flat_get E ys i x (by simpa using h) j u hu
    simp only [Enc.flat, List.flatMap_cons] at this ⊢
    rw [List.getElem?_append_right (by rw [E.len, Nat.add_mul]; omega), E.len]
    rw [show (i + 1) * E.sz + j - E.sz = i * E.sz + j by rw [Nat.add_mul]; omega]
    exact this

structure Rd (E : Enc α) (w : World) (A : Option Addr) (xs : List α) : Prop where
  len : xs.length ≤ 9223372036854775807
  cells : 0 < xs.length → ∃ ad, A = some ad ∧ ad.block < w.heap.size ∧ ∀ j u, (E.flat xs)[j]? = some u → w.cell? (ad.add j) = some u
theorem add_block (a : Addr) (j : Nat) : (a.add j).block = a.block := by unfold Addr.add; split <;> rfl
theorem Rd.up (h : Rd E w A xs) (u : Up w w') : Rd E w' A xs := ⟨h.len, fun hp => by
  obtain ⟨ad, e, hb, hc⟩ := h.cells hp
  exact ⟨ad, e, Nat.lt_of_lt_of_le hb u.size, fun j v hv => (u.cell (by rw [add_block]; exact hb)).trans (hc j v hv)⟩⟩
theorem Rd.nil : Rd E w A [] := ⟨by simp, fun h => by simp at h⟩
def rowAt (w : World) (base : Nat) (T : TypeId) (sz : Nat) (v : Value) (n : Nat) (xs : List Value) : Prop :=
  xs.length = n * sz ∧ ((v = .slice none 0 0 ∧ n = 0) ∨ ∃ g room cs, v = .slice (some ⟨g, 0, none⟩) n room ∧ base ≤ g ∧ w.heap[g]? = some (.cells cs T (0, 0)) ∧ n ≤ room ∧ room ≤ maxLen ∧ room * sz ≤ cs.size ∧ cs.toList.take (n * sz) = xs)
theorem rowAt.nil (w : World) (base : Nat) (T : TypeId) (sz : Nat) : rowAt w base T sz (.slice none 0 0) 0 [] := ⟨by simp, .inl ⟨rfl, rfl⟩⟩
theorem rowAt.cells {w : World} {base sz n : Nat} {T : TypeId} {v : Value} {xs : List Value} (h : rowAt w base T sz v n xs) {g : Nat} (hg : v.ownBlock = some g) : ∀ j u, xs[j]? = some u → w.cell? ((⟨g, 0, none⟩ : Addr).add j) = some u := fun j u hu => by
  rcases h.2 with ⟨rfl, _⟩ | ⟨b, room, cs, rfl, _, hh, _, _, _, ht⟩
  · cases hg
  · obtain rfl : b = g := by injection hg
    have e : (⟨b, 0, none⟩ : Addr).add j = ⟨b, j, none⟩ := by unfold Addr.add; split <;> simp_all
    rw [e, cell_of_row w b j cs T (0, 0) hh]
    rw [← ht, List.getElem?_take] at hu
    split at hu
    · simpa using hu
    · cases hu
theorem rowAt_made {w : World} {base sz n m room : Nat} {T : TypeId} {z : Array Value} {xs news : List Value} (hb : base ≤ w.heap.size) (hx : xs.length = n * sz) (hn : news.length = m * sz) (hz : z.size = sz) (h1 : n + m ≤ room) (h2 : room ≤ maxLen) :
    rowAt (w.drew.alloc (.cells (xs.toArray ++ news.toArray ++ Builtin.zeroCells z (room - (n + m))) T)) base T sz (.slice (some ⟨w.heap.size, 0, none⟩) (n + m) room) (n + m) (xs ++ news) := by
  have hl : (xs ++ news).length = (n + m) * sz := by rw [List.length_append, hx, hn, Nat.add_mul]
  refine ⟨hl, .inr ⟨w.heap.size, room, _, rfl, hb, heap_alloc_new w.drew _, h1, h2, ?_, ?_⟩⟩
  · have e : (xs.toArray ++ news.toArray ++ Builtin.zeroCells z (room - (n + m))).size = (n + m) * sz + (room - (n + m)) * sz := by
      rw [Array.size_append, Array.size_append, size_zeroCells, hz, ← hl, List.length_append]
      simp
    rw [e, ← Nat.add_mul]
    exact Nat.mul_le_mul_right _ (by omega)
  · rw [Array.toList_append, Array.toList_append, ← hl]
    exact List.take_left
theorem run_append_row {P : Program} (w : World) (base : Nat) (t ty T : TypeId) (i : TypeInfo) (z : Value) (ht : P.underlying t = some (.slice T)) (hi : P.info? T = some i) (hz : i.zero = some z) (hzs : z.cells.size = i.size)
    {v : Value} {n : Nat} {xs : List Value} (hv : rowAt w base T i.size v n xs) {a : Addr} {m c : Nat} {news : List Value} (hl : news.length = m * i.size) (hnews : ∀ j u, news[j]? = some u → w.cell? (a.add j) = some u) (h1 : ∀ u ∈ news, u.oneCell' = true)
    (hm : 0 < m) (h63 : n + m ≤ maxLen) (hbytes : (n + m) * i.bytes ≤ 140737488355328) (hbase : base ≤ w.heap.size) :
    ∃ v' w', (Builtin.append_ #[t, t] ty #[v, .slice (some a) m c]).run P w = .ok v' w' ∧ rowAt w' base T i.size v' (n + m) (xs ++ news) ∧ w.grownBy w' v.ownBlock ∧ (v'.ownBlock = v.ownBlock ∨ v'.ownBlock = some w.heap.size) := by
  have h63' : ((n + m : Nat) : Int) ≤ 9223372036854775807 := by simp only [maxLen] at h63; omega
  have made : ∀ (old : Nat) (cs : Array Value), w.grownBy (w.drew.alloc (.cells cs T)) v.ownBlock := fun old cs => ⟨rfl, rfl, rfl, by simp, fun k hk _ => heap_alloc_old w.drew _ hk⟩
  have hx := hv.1
  rcases hv.2 with ⟨rfl, rfl⟩ | ⟨g, room, cs, rfl, hg, hh, hnr, hr, hs, htk⟩
  · obtain rfl : xs = [] := List.eq_nil_of_length_eq_zero (by rw [hx, Nat.zero_mul])
    have hrun := run_append_nil (P := P) w t ty T i z ht hi hz a m c news hl hnews hm (by omega) (by rw [Nat.zero_add] at hbytes; omega)
    have hrow := rowAt_made (T := T) (n := 0) (m := m) (room := grownCap w m 0 T) (z := z.cells) (xs := []) (news := news) hbase (by simp) hl hzs (by rw [Nat.zero_add]; exact grownCap_ge w m 0 T) (grownCap_le_maxLen w m 0 T (by omega))
    simp only [Nat.zero_add, List.nil_append, Array.empty_append] at hrow ⊢
    exact ⟨_, _, hrun, hrow, made 0 _, .inr rfl⟩
  · by_cases hroom : n + m ≤ room
    · have hfit : n * i.size + news.length ≤ cs.size := by
        rw [hl, ← Nat.add_mul]
        exact Nat.le_trans (Nat.mul_le_mul_right _ hroom) hs
      have hrun := run_append_room (P := P) w t ty T i ht hi g n room cs hh a m c news hl hnews h1 hroom hfit
      have hlen : (xs ++ news).length = (n + m) * i.size := by rw [List.length_append, hx, hl, Nat.add_mul]
      refine ⟨_, _, hrun, ⟨hlen, .inr ⟨g, room, _, rfl, hg, setRow_heap w g cs _ T _ hh, hroom, hr, ?_, ?_⟩⟩, ⟨rfl, rfl, rfl, by simp, fun k _ hk => setRow_other w g k _ (fun e => hk (by simp [Value.ownBlock, e]))⟩, .inl rfl⟩
      · have e : (cs.toList.take (n * i.size) ++ news ++ cs.toList.drop (n * i.size + news.length)).toArray.size = cs.size := by
          rw [List.size_toArray, List.length_append, List.length_append, List.length_take, List.length_drop, Array.length_toList]
          omega
        rw [e]
        exact hs
      · rw [List.toList_toArray, htk, ← hlen]
        exact List.take_left
    · have hrun := run_append_grow (P := P) w t ty T i z ht hi hz ⟨g, 0, none⟩ n room xs hx (fun j u hu => hv.cells (g := g) rfl j u hu) a m c news hl hnews (by omega) h63' (growslice_fits (by omega) hbytes)
      exact ⟨_, _, hrun, rowAt_made hbase hx hl hzs (grownCap_ge w (n + m) room T) (grownCap_le_maxLen w (n + m) room T h63), made room _, .inr rfl⟩
structure Own (E : Enc α) (T : TypeId) (w : World) (base : Nat) (v : Value) (xs : List α) : Prop where mk :: (out : rowAt w base T E.sz v xs.length (E.flat xs))
theorem Own.nil : Own E T w base (.slice none 0 0) [] := ⟨rowAt.nil w base T E.sz⟩
theorem Own.move (h : Own E T w base v xs) (hm : ∀ k, blk v = some k → w'.heap[k]? = w.heap[k]?) : Own E T w' base v xs := by
  obtain ⟨h1, h2⟩ := h.out
  refine ⟨⟨h1, ?_⟩⟩
  rcases h2 with h2 | ⟨g, cap, cur, rfl, hg, hh, r⟩
  · exact .inl h2
  · exact .inr ⟨g, cap, cur, rfl, hg, (hm g rfl).trans hh, r⟩
theorem Own.lt (h : Own E T w base v xs) : ∀ k, blk v = some k → base ≤ k ∧ k < w.heap.size := fun k hk => by
  rcases h.out.2 with ⟨rfl, _⟩ | ⟨g, cap, cur, rfl, hg, hh, r⟩
  · simp [blk] at hk
  · obtain rfl : g = k := by simpa [blk] using hk
    exact ⟨hg, (Array.getElem?_eq_some_iff.1 hh).1⟩
theorem Own.up (h : Own E T w base v xs) (u : Up w w') : Own E T w' base v xs := h.move fun k hk => u.block (h.lt k hk).2
theorem Own.sto {b : Nat} (h : Own E T w base v xs) (s : Sto b w w') (hne : ∀ k, blk v = some k → k ≠ b) : Own E T w' base v xs := h.move fun k hk => s.block k (hne k hk)
theorem Own.lower {base' : Nat} (h : Own E T w base v xs) (hb : base' ≤ base) : Own E T w base' v xs := by
  obtain ⟨h1, h2⟩ := h.out
  refine ⟨⟨h1, ?_⟩⟩
  rcases h2 with h2 | ⟨g, cap, cur, rfl, hg, r⟩
  · exact .inl h2
  · exact .inr ⟨g, cap, cur, rfl, Nat.le_trans hb hg, r⟩
theorem own_len (h : Own E T w base v xs) : xs.length ≤ 9223372036854775807 := by
  rcases h.out.2 with ⟨_, h0⟩ | ⟨g, cap, cur, _, _, _, h1, h2, _⟩
  · omega
  · simp only [maxLen] at h2; omega
theorem Own.shape (h : Own E T w base v xs) : ∃ A c, v = .slice A xs.length c := by
  rcases h.out.2 with ⟨rfl, h0⟩ | ⟨g, cap, cur, rfl, _⟩
  · exact ⟨none, 0, by rw [h0]⟩
  · exact ⟨_, cap, rfl⟩
theorem Own.rd {c : Nat} (h : Own E T w base (.slice A xs.length c) xs) : Rd E w A xs := ⟨own_len h, fun hp => by
  rcases h.out.2 with ⟨_, h0⟩ | ⟨g, cap, cur, he, _, hh, _⟩
  · omega
  · injection he with hA _ _
    subst hA
    exact ⟨_, rfl, (Array.getElem?_eq_some_iff.1 hh).1, fun j u hu => h.out.cells (g := g) rfl j u hu⟩⟩
theorem Own.cap {c : Nat} (h : Own E T w base (.slice A xs.length c) xs) : xs.length ≤ c := by
  rcases h.out.2 with ⟨_, h0⟩ | ⟨g, cap, cur, he, _, _, hc, _⟩
  · omega
  · injection he with _ _ hc'
    omega
theorem Own.of_blk {b n : Nat} {cs : List Value} (h : Blk w b cs T) (hb : base ≤ b) (hn : xs.length = n) (hm : n ≤ 9223372036854775807) (hc : cs = E.flat xs) : Own E T w base (.slice (some ⟨b, 0, none⟩) n n) xs := by
  subst hn hc
  refine ⟨⟨E.flat_len xs, .inr ⟨b, xs.length, (E.flat xs).toArray, rfl, hb, h.out, Nat.le_refl _, by simpa [maxLen] using hm, Nat.le_of_eq (by simpa using (E.flat_len xs).symm), ?_⟩⟩⟩
  rw [← E.flat_len xs]
  simp
theorem Rd.of_blk {b o : Nat} {cs : List Value} (h : Blk w b cs T) (hm : xs.length ≤ 9223372036854775807) (hc : ∀ j u, (E.flat xs)[j]? = some u → cs[o + j]? = some u) : Rd E w (some ⟨b, o, none⟩) xs :=
  ⟨hm, fun _ => ⟨_, rfl, h.lt, fun j u hu => by
    have : (⟨b, o, none⟩ : Addr).add j = ⟨b, o + j, none⟩ := by unfold Addr.add; split <;> simp_all
    rw [this]
    exact h.cell (hc j u hu)⟩⟩

structure Grow (v : Value) (w w' : World) : Prop where
  os : w'.os = w.os
  tape : w'.tape = w.tape
  output : w'.output = w.output
  size : w.heap.size ≤ w'.heap.size
  block : ∀ k, k < w.heap.size → blk v ≠ some k → w'.heap[k]? = w.heap[k]?
theorem Up.grow {a : World} (h : Up a w) (g : Grow v w w') (hv : ∀ k, blk v = some k → a.heap.size ≤ k) : Up a w' :=
  ⟨h.out.trans ⟨g.os, g.tape, g.output, g.size, fun k hk => g.block k (Nat.lt_of_lt_of_le hk h.size) (fun e => by have := hv k e; omega)⟩⟩
theorem Blk.grow {b : Nat} {cs : List Value} {T : TypeId} (h : Blk w b cs T) (g : Grow v w w') (hne : ∀ k, blk v = some k → k ≠ b) : Blk w' b cs T :=
  ⟨(g.block b h.lt (fun e => hne b e rfl)).trans h.out⟩
theorem Own.grow {β : Type} {E' : Enc β} {T' : TypeId} {base' : Nat} {u : Value} {ys : List β} (h : Own E' T' w base' u ys) (g : Grow v w w') (hne : ∀ k l, blk v = some k → blk u = some l → k ≠ l) : Own E' T' w' base' u ys :=
  h.move fun k hk => g.block k (h.lt k hk).2 (fun e => hne k k e hk rfl)
theorem blk_own (A : Option Addr) (n c : Nat) : blk (.slice A n c) = (Value.slice A n c).ownBlock := by cases A <;> rfl
end
section
variable {P : Program} {ops : Array Oper} {rest : List Oper} {o : Oper} {a : Act} {w : World} {Q : Exit → Act → World → Prop} {α : Type} {E : Enc α}

theorem step_append (E : Enc α) {t T : TypeId} {z : Value} {bytes base : Nat} {A B : Option Addr} {c m d : Nat} {xs ys : List α} (hg : Region.wanted o (yielded ops a.tmps) = true) (s x : Operand)
    (ho : o.op = .call { callee := .builtin .append, args := #[s, x], argTypes := #[t, t] }) (ht : P.underlying t = some (.slice T))
    (hinfo : (P.info? T).map (fun i => (i.zero, i.size, i.bytes)) = some (some z, E.sz, bytes)) (hz : z.cells.size = E.sz) (hb0 : 0 < bytes)
    (hs : a.eval s = .slice A xs.length c) (hx : a.eval x = .slice B m d) (hm : m = ys.length) (HO : Own E T w base (.slice A xs.length c) xs) (HR : Rd E w B ys)
    (hbase : base ≤ w.heap.size) (hl : (xs.length + ys.length) * bytes ≤ 140737488355328)
    (k : ∀ A' c' w', Own E T w' base (.slice A' (xs ++ ys).length c') (xs ++ ys) → Grow (.slice A xs.length c) w w' → (blk (.slice A' (xs ++ ys).length c') = blk (.slice A xs.length c) ∨ ∀ k, blk (.slice A' (xs ++ ys).length c') = some k → w.heap.size ≤ k) →
      wpList P ops Q rest (a.put o.dst (.slice A' (xs ++ ys).length c')) w') : wpList P ops Q (o :: rest) a w := by
  obtain ⟨i0, hi, hzz⟩ := Option.map_eq_some_iff.1 hinfo
  simp only [Prod.mk.injEq] at hzz
  obtain ⟨hz0, hz1, hz2⟩ := hzz
  have hlen : xs.length + ys.length ≤ 140737488355328 := Nat.le_trans (Nat.le_mul_of_pos_right _ hb0) hl
  subst hm
  refine wpList_step fun K hK => ?_
  rw [if_pos hg]
  have key : ∃ v' w', (Builtin.append_ #[t, t] o.type #[.slice A xs.length c, .slice B ys.length d]).run P w = .ok v' w' ∧ rowAt w' base T E.sz v' (xs.length + ys.length) (E.flat xs ++ E.flat ys) ∧
      w.grownBy w' (Value.slice A xs.length c).ownBlock ∧ (v'.ownBlock = (Value.slice A xs.length c).ownBlock ∨ v'.ownBlock = some w.heap.size) := by
    rcases Nat.eq_zero_or_pos ys.length with h0 | hp
    · have hy : ys = [] := List.eq_nil_of_length_eq_zero h0
      subst hy
      refine ⟨.slice A xs.length c, w, ?_, by simpa [Enc.flat] using HO.out, ⟨rfl, rfl, rfl, Nat.le_refl _, fun _ _ _ => rfl⟩, .inl rfl⟩
      have hcap := HO.cap
      rcases HO.out.2 with ⟨he, hxz⟩ | ⟨g, cap, cur, he, _⟩
      · injection he with h1 h2 h3
        subst h1 h3
        cases B <;> simp [Builtin.append_, run_underlying ht, sizeOf, typeInfo, hi, Builtin.lenOf, Builtin.firstCells, loadCells, loadCellsFrom, hxz]
      · injection he with h1 h2 h3
        subst h1 h3
        cases B <;> simp [Builtin.append_, run_underlying ht, sizeOf, typeInfo, hi, Builtin.lenOf, Builtin.firstCells, hcap, loadCells, loadCellsFrom, storeCells]
    · obtain ⟨ad, rfl, _, hc⟩ := HR.cells hp
      have HO1 := HO.out
      rw [← hz1] at HO1 ⊢
      exact run_append_row (P := P) w base t o.type T i0 z ht hi hz0 (hz.trans hz1.symm) HO1 (by rw [E.flat_len, hz1]) hc (E.flat_one ys) hp (by simp only [maxLen]; omega) (by rw [hz2]; exact hl) hbase
  obtain ⟨v', w', hr, hown, hgr, hat⟩ := key
  have HO' : Own E T w' base v' (xs ++ ys) := ⟨by rw [List.length_append, E.flat_append]; exact hown⟩
  obtain ⟨A', c', rfl⟩ := HO'.shape
  unfold Oper.wp execOp
  simp only [ho, resolve, invoke, builtin, Sem.run_bind, Sem.run_pure, Result.andThen_ok, List.map_toArray, List.map_cons, List.map_nil, hs, hx, hr]
  refine hK _ _ (k A' c' w' HO' ⟨hgr.os, hgr.tape, hgr.output, hgr.size, fun j hj hne => hgr.block j hj (fun e => hne (by rw [blk_own]; exact e.symm))⟩ ?_)
  rw [blk_own, blk_own]
  rcases hat with hat | hat
  · exact .inl hat
  · exact .inr fun j hj => by rw [hat] at hj; injection hj with hj; omega

end
theorem rounds_k {P : Program} {c : Code} {Q : Exit → Act → World → Prop} {n : Nat} {a : Act} {w : World} (h : ∀ K : Act → World → Prop, (∀ a w, Code.rounds P c Q n a w → K a w) → c.wp P (Exit.then K Q) a w) : Code.rounds P c Q (n + 1) a w := h _ fun _ _ h => h

/-! ### An element is read -/
def idx {α : Type} (xs : List α) (i : Int) : Option α := if 0 ≤ i then xs[i.toNat]? else none
theorem idx_some {α : Type} {xs : List α} {i : Int} {x : α} (h : idx xs i = some x) : 0 ≤ i ∧ i < xs.length ∧ xs[i.toNat]? = some x := by
  unfold idx at h
  split at h
  · rename_i h0
    have := (List.getElem?_eq_some_iff.1 h).1
    exact ⟨h0, by omega, h⟩
  · cases h
theorem addr_add0 (a : Addr) : a.add 0 = a := by unfold Addr.add; simp
theorem addr_addadd (a : Addr) (i j : Nat) : (a.add i).add j = a.add (i + j) := by
  unfold Addr.add
  by_cases h1 : i = 0 <;> by_cases h2 : j = 0 <;> simp [h1, h2, Nat.add_assoc]
section
variable {P : Program} {ops : Array Oper} {rest : List Oper} {o : Oper} {a : Act} {w : World} {Q : Exit → Act → World → Prop} {α : Type} {E : Enc α}
theorem Rd.idx {A : Option Addr} {xs : List α} (h : Rd E w A xs) {i : Int} {x : α} (hi : idx xs i = some x) : ∃ ad0, A = some ad0 ∧ ad0.block < w.heap.size ∧ ∀ j u, (E.enc x)[j]? = some u → w.cell? ((ad0.add (i.toNat * E.sz)).add j) = some u := by
  obtain ⟨h0, h1, h2⟩ := idx_some hi
  obtain ⟨ad, e, hb, hc⟩ := h.cells (by omega)
  exact ⟨ad, e, hb, fun j u hu => by rw [addr_addadd]; exact hc _ _ (E.flat_get xs i.toNat x h2 j u hu)⟩
theorem run_indexAt {t T : TypeId} {ad0 : Addr} {n c : Nat} {i : Int} (ht : P.underlying t = some (.slice T)) (hsz : (P.info? T).map (·.size) = some E.sz) (h0 : 0 ≤ i) (h1 : i < n) :
    (Instr.indexAt t (.slice (some ad0) n c) (.int .i64 i)).run P w = .ok (.pointer (some (ad0.add (i.toNat * E.sz)))) w := by
  obtain ⟨i0, hi, hs⟩ := Option.map_eq_some_iff.1 hsz
  simp [Instr.indexAt, run_underlying ht, sizeOf, typeInfo, hi, hs, h0, h1, asIntOf]
structure At (A : Option Addr) (i : Int) (sz : Nat) (ad : Addr) : Prop where mk :: (out : ∃ ad0, A = some ad0 ∧ ad = ad0.add (i.toNat * sz))
theorem step_index (E : Enc α) {t T : TypeId} {A : Option Addr} {n c : Nat} {xs : List α} {i : Int} {el : α} (hg : Region.wanted o (yielded ops a.tmps) = true) {x y : Operand} (ho : o.op = .indexAddr t x y) (ht : P.underlying t = some (.slice T))
    (hsz : (P.info? T).map (·.size) = some E.sz) (hx : a.eval x = .slice A n c) (hn : n = xs.length) (hy : a.eval y = .int .i64 i) (HR : Rd E w A xs) (hi : idx xs i = some el)
    (k : ∀ ad, At A i E.sz ad → (∀ j u, (E.enc el)[j]? = some u → w.cell? (ad.add j) = some u) → wpList P ops Q rest (a.put o.dst (.pointer (some ad))) w) : wpList P ops Q (o :: rest) a w := by
  subst hn
  obtain ⟨ad0, rfl, _, hc⟩ := HR.idx hi
  obtain ⟨h0, h1, _⟩ := idx_some hi
  refine wpList_step fun K hK => ?_
  rw [if_pos hg]
  unfold Oper.wp execOp
  simp only [ho, hx, hy, Sem.run_bind, Sem.run_pure, Result.andThen_ok, run_indexAt (E := E) (c := c) ht hsz h0 h1]
  exact hK _ _ (k _ ⟨_, rfl, rfl⟩ hc)
theorem rd_at {A : Option Addr} {xs : List α} (h : Rd E w A xs) {i : Int} {x : α} (hi : idx xs i = some x) : ∃ ad, At A i E.sz ad ∧ ∀ j u, (E.enc x)[j]? = some u → w.cell? (ad.add j) = some u := by
  obtain ⟨ad0, e, _, hc⟩ := h.idx hi
  exact ⟨_, ⟨ad0, e, rfl⟩, hc⟩
theorem quiet_index (E : Enc α) {t T : TypeId} {A : Option Addr} {ad0 : Addr} {n c : Nat} {xs : List α} {i : Int} {el : α} {C : World → Prop} {x y : Operand} (ho : o.op = .indexAddr t x y) (ht : P.underlying t = some (.slice T))
    (hsz : (P.info? T).map (·.size) = some E.sz) (hx : a.eval x = .slice A n c) (hn : n = xs.length) (hy : a.eval y = .int .i64 i) (hA : At A i E.sz ad0) (hi : idx xs i = some el) : o.quietAt P a C w (.pointer (some ad0)) := by
  obtain ⟨ad1, rfl, rfl⟩ := hA.out
  subst hn
  obtain ⟨h0, h1, _⟩ := idx_some hi
  unfold Oper.quietAt execOp
  simp only [ho, hx, hy, Sem.run_bind, Sem.run_pure, Result.andThen_ok, run_indexAt (E := E) (c := c) ht hsz h0 h1]
  exact ⟨rfl, rfl⟩
def RowTo (E : Enc α) (T : TypeId) (base : Nat) (xs : List α) (mk : Value → Value) : Value → World → Prop := fun v w => ∃ A c, v = mk (.slice A xs.length c) ∧ Own E T w base (.slice A xs.length c) xs
theorem stab_row (E : Enc α) (T : TypeId) (base : Nat) (xs : List α) (mk : Value → Value) : Stab (RowTo E T base xs mk) := fun _ _ _ ⟨A, c, e, h⟩ hu => ⟨A, c, e, h.up hu⟩
/-! ### Cuts of rows -/
theorem Rd.take {A : Option Addr} {xs : List α} (h : Rd E w A xs) (n : Nat) : Rd E w A (xs.take n) := ⟨by have := h.len; simp; omega, fun hp => by
  have hp' : 0 < xs.length := by rw [List.length_take] at hp; omega
  obtain ⟨ad, e, hb, hc⟩ := h.cells hp'
  refine ⟨ad, e, hb, fun j u hu => hc j u ?_⟩
  have e2 : E.flat xs = E.flat (xs.take n) ++ E.flat (xs.drop n) := by rw [← E.flat_append, List.take_append_drop]
  rw [e2, List.getElem?_append_left (List.getElem?_eq_some_iff.1 hu).1]
  exact hu⟩
theorem Rd.drop {A : Option Addr} {xs : List α} (h : Rd E w A xs) {c n : Nat} (hcap : xs.length ≤ c) (hn : n ≤ xs.length) : Rd E w (if c = n then A else A.map (·.add (n * E.sz))) (xs.drop n) := ⟨by have := h.len; simp; omega, fun hp => by
  have hlt : n < xs.length := by rw [List.length_drop] at hp; omega
  rw [if_neg (by omega)]
  obtain ⟨ad, e, hb, hc⟩ := h.cells (by omega)
  subst e
  refine ⟨ad.add (n * E.sz), rfl, by rw [add_block]; exact hb, fun j u hu => ?_⟩
  rw [addr_addadd]
  apply hc
  have e2 : E.flat xs = E.flat (xs.take n) ++ E.flat (xs.drop n) := by rw [← E.flat_append, List.take_append_drop]
  have e3 : (E.flat (xs.take n)).length = n * E.sz := by rw [E.flat_len, List.length_take, Nat.min_eq_left hn]
  rw [e2, List.getElem?_append_right (by omega), e3, Nat.add_sub_cancel_left]
  exact hu⟩
theorem Rd.of_cells {ad : Addr} {xs : List α} (hl : xs.length ≤ 9223372036854775807) (h : ∀ j u, (E.flat xs)[j]? = some u → w.cell? (ad.add j) = some u) : Rd E w (some ad) xs := ⟨hl, fun hp => by
  have hpos : 0 < (E.flat xs).length := by rw [E.flat_len]; exact Nat.mul_pos hp E.pos
  have h0 := h 0 _ (List.getElem?_eq_getElem hpos)
  have := World.block_lt_of_cell? w _ h0
  rw [add_block] at this
  exact ⟨ad, rfl, this, h⟩⟩
theorem elem_of {t T : TypeId} (ht : P.underlying t = some (.slice T)) : P.underlying t = some (.slice (P.elem t)) ∧ P.elem t = T := by
  have : P.elem t = T := by simp [Program.elem, ht]
  rw [this]
  exact ⟨ht, rfl⟩
theorem run_cut_hi {t T : TypeId} {A : Option Addr} {n c : Nat} {i : Int} {sz : Nat} (ht : P.underlying t = some (.slice T)) (hsz : (P.info? T).map (·.size) = some sz) (h0 : 0 ≤ i) (h1 : i ≤ c) :
    (Instr.sliceAt t (.slice A n c) none (some (.int .i64 i)) none).run P w = .ok (.slice A i.toNat c) w := by
  obtain ⟨i0, hi, hs⟩ := Option.map_eq_some_iff.1 hsz
  obtain ⟨h2, h3⟩ := elem_of ht
  rw [run_sliceAt_slice w t _ _ _ _ h2, run_slice_h w t A n c h2 .i64 i h0 h1, h3]
  simp [sizeOf, typeInfo, hi, hs, sliced, addr_add0]
theorem run_cut_lo {t T : TypeId} {A : Option Addr} {n c : Nat} {i : Int} {sz : Nat} (ht : P.underlying t = some (.slice T)) (hsz : (P.info? T).map (·.size) = some sz) (h0 : 0 ≤ i) (h1 : i ≤ n) :
    (Instr.sliceAt t (.slice A n c) (some (.int .i64 i)) none none).run P w = .ok (.slice (if c = i.toNat then A else A.map (·.add (i.toNat * sz))) (n - i.toNat) (c - i.toNat)) w := by
  obtain ⟨i0, hi, hs⟩ := Option.map_eq_some_iff.1 hsz
  obtain ⟨h2, h3⟩ := elem_of ht
  rw [run_sliceAt_slice w t _ _ _ _ h2, run_slice_l w t A n c h2 .i64 i h0 h1, h3]
  simp [sizeOf, typeInfo, hi, hs, sliced]
theorem quiet_cut_hi (sz : Nat) {t T : TypeId} {A : Option Addr} {n c : Nat} {i : Int} {C : World → Prop} {x z : Operand} (ho : o.op = .slice t x none (some z) none) (ht : P.underlying t = some (.slice T)) (hsz : (P.info? T).map (·.size) = some sz)
    (hx : a.eval x = .slice A n c) (hz : a.eval z = .int .i64 i) (h0 : 0 ≤ i) (h1 : i ≤ c) : o.quietAt P a C w (.slice A i.toNat c) := by
  unfold Oper.quietAt execOp
  simp only [ho, hx, hz, Option.map_some, Option.map_none, Sem.run_bind, Sem.run_pure, Result.andThen_ok, run_cut_hi (A := A) (n := n) ht hsz h0 h1]
  exact ⟨rfl, rfl⟩
theorem step_cut_lo (sz : Nat) {t T : TypeId} {A : Option Addr} {n c : Nat} {i : Int} (hg : Region.wanted o (yielded ops a.tmps) = true) {x z : Operand} (ho : o.op = .slice t x (some z) none none) (ht : P.underlying t = some (.slice T)) (hsz : (P.info? T).map (·.size) = some sz)
    (hx : a.eval x = .slice A n c) (hz : a.eval z = .int .i64 i) (h0 : 0 ≤ i) (h1 : i ≤ n)
    (k : wpList P ops Q rest (a.put o.dst (.slice (if c = i.toNat then A else A.map (·.add (i.toNat * sz))) (n - i.toNat) (c - i.toNat))) w) : wpList P ops Q (o :: rest) a w := by
  refine wpList_step fun K hK => ?_
  rw [if_pos hg]
  unfold Oper.wp execOp
  simp only [ho, hx, hz, Option.map_some, Option.map_none, Sem.run_bind, Sem.run_pure, Result.andThen_ok, run_cut_lo (A := A) (c := c) ht hsz h0 h1]
  exact hK _ _ k
theorem fresh_append0 (E : Enc α) {t T : TypeId} {z : Value} {bytes base b : Nat} {B : Option Addr} {m d : Nat} {ys : List α} (s x : Operand)
    (ho : o.op = .call { callee := .builtin .append, args := #[s, x], argTypes := #[t, t] }) (ht : P.underlying t = some (.slice T))
    (hinfo : (P.info? T).map (fun i => (i.zero, i.size, i.bytes)) = some (some z, E.sz, bytes)) (hz : z.cells.size = E.sz) (hb0 : 0 < bytes)
    (hs : a.eval s = .slice (some ⟨b, 0, none⟩) 0 0) (hB : Blk w b [] T) (hbb : base ≤ b) (hx : a.eval x = .slice B m d) (hm : m = ys.length) (HR : Rd E w B ys)
    (hbase : base ≤ w.heap.size) (hl : ys.length * bytes ≤ 140737488355328) : freshAt P o a w (RowTo E T base ys (fun v => v)) false := by
  obtain ⟨i0, hi, hzz⟩ := Option.map_eq_some_iff.1 hinfo
  simp only [Prod.mk.injEq] at hzz
  obtain ⟨hz0, hz1, hz2⟩ := hzz
  have hlen : ys.length ≤ 140737488355328 := Nat.le_trans (Nat.le_mul_of_pos_right _ hb0) hl
  subst hm
  have HO : Own E T w base (.slice (some ⟨b, 0, none⟩) ([] : List α).length 0) [] := Own.of_blk (E := E) (xs := ([] : List α)) (n := 0) hB hbb rfl (by omega) rfl
  have key : ∃ v' w', (Builtin.append_ #[t, t] o.type #[.slice (some ⟨b, 0, none⟩) 0 0, .slice B ys.length d]).run P w = .ok v' w' ∧ rowAt w' base T E.sz v' ys.length (E.flat ys) ∧ Up w w' := by
    rcases Nat.eq_zero_or_pos ys.length with h0 | hp
    · have hy : ys = [] := List.eq_nil_of_length_eq_zero h0
      subst hy
      refine ⟨.slice (some ⟨b, 0, none⟩) 0 0, w, ?_, by simpa [Enc.flat] using HO.out, Up.refl _⟩
      cases B <;> simp [Builtin.append_, run_underlying ht, sizeOf, typeInfo, hi, Builtin.lenOf, Builtin.firstCells, loadCells, loadCellsFrom, storeCells]
    · obtain ⟨ad, rfl, _, hc⟩ := HR.cells hp
      have HO1 := HO.out
      rw [← hz1] at HO1
      obtain ⟨v', w', h1, h2, _, _⟩ := run_append_row (P := P) w base t o.type T i0 z ht hi hz0 (hz.trans hz1.symm) HO1 (by rw [E.flat_len, hz1]) hc (E.flat_one ys) hp (by simp only [maxLen]; simp; omega) (by rw [hz2]; simpa using hl) hbase
      rw [hz1] at h2
      have h3 := run_append_grow (P := P) w t o.type T i0 z ht hi hz0 ⟨b, 0, none⟩ 0 0 [] (by simp) (fun j v hv => by simp at hv) ad ys.length d (E.flat ys) (by rw [hz1]; exact E.flat_len ys) hc (by omega) (by omega) (by
        rw [Nat.zero_add, nextslicecap_zero hp, hz2]
        omega)
      simp only [List.length_nil] at h1
      rw [h1] at h3
      injection h3 with h4 h5
      refine ⟨v', w', h1, by simpa [Enc.flat] using h2, ?_⟩
      rw [h5]
      exact ((Up.refl w).drew).alloc _
  obtain ⟨v', w', hr, hown, hu⟩ := key
  have HO' : Own E T w' base v' ys := ⟨hown⟩
  obtain ⟨A', c', rfl⟩ := HO'.shape
  unfold freshAt execOp
  simp only [ho, resolve, invoke, builtin, Sem.run_bind, Sem.run_pure, Result.andThen_ok, List.map_toArray, List.map_cons, List.map_nil, hs, hx, hr]
  exact ⟨hu, ⟨A', c', rfl, HO'⟩, nofun⟩
theorem wn {o : Oper} {y : Nat → Option Bool} (h : o.guard = none := by rfl) : Region.wanted o y = true := wanted_none' h
theorem wpp (h : ∀ K : Act → World → Prop, (∀ a w, wpList P ops Q rest a w → K a w) → o.wp P a w K Q) (hg : o.guard = none := by rfl) : wpList P ops Q (o :: rest) a w := wpList_plain hg h
theorem Grow.refl (v : Value) (w : World) : Grow v w w := ⟨rfl, rfl, rfl, Nat.le_refl _, fun _ _ _ => rfl⟩
theorem Grow.trans {v : Value} {x y z : World} (g : Grow v x y) (h : Grow v y z) : Grow v x z :=
  ⟨h.os.trans g.os, h.tape.trans g.tape, h.output.trans g.output, Nat.le_trans g.size h.size, fun k hk hne => (h.block k (Nat.lt_of_lt_of_le hk g.size) hne).trans (g.block k hk hne)⟩
theorem Grow.up {v : Value} {x y : World} (u : Up x y) : Grow v x y := ⟨u.out.os, u.out.tape, u.out.output, u.out.size, fun k hk _ => u.out.block k hk⟩
theorem Grow.same {A : Option Addr} {n c m d : Nat} {x y : World} (g : Grow (.slice A n c) x y) : Grow (.slice A m d) x y :=
  ⟨g.os, g.tape, g.output, g.size, fun k hk hne => g.block k hk (fun e => hne (by rw [← e]; cases A <;> rfl))⟩
theorem Own.take {T : TypeId} {A : Option Addr} {c base m : Nat} {xs : List α} (h : Own E T w base (.slice A xs.length c) xs) (hm : m ≤ xs.length) : Own E T w base (.slice A (xs.take m).length c) (xs.take m) := by
  have hl : (xs.take m).length = m := by rw [List.length_take]; omega
  refine ⟨⟨by rw [E.flat_len], ?_⟩⟩
  rcases h.out.2 with ⟨he, h0⟩ | ⟨g, cap, cur, he, hg, hh, hnc, hcm, hcs, htake⟩
  · have hm0 : (xs.take m).length = 0 := by omega
    injection he with h1 h2 h3
    exact .inl ⟨by rw [h1, h3, hm0], hm0⟩
  · injection he with h1 _ h3
    subst h1 h3
    refine .inr ⟨g, c, cur, rfl, hg, hh, by omega, hcm, hcs, ?_⟩
    have h5 : E.flat (xs.take m) = (E.flat xs).take (m * E.sz) := by
      have h6 : E.flat xs = E.flat (xs.take m) ++ E.flat (xs.drop m) := by rw [← E.flat_append, List.take_append_drop]
      have h7 := E.flat_len (xs.take m)
      rw [hl] at h7
      have h8 : (E.flat (xs.take m) ++ E.flat (xs.drop m)).take (m * E.sz) = E.flat (xs.take m) := by
        rw [List.take_append_of_le_length (by omega), List.take_of_length_le (by omega)]
      rw [← h6] at h8
      exact h8.symm
    rw [h5, ← htake, hl, List.take_take, Nat.min_eq_left (Nat.mul_le_mul_right _ hm)]
/-! ### Cuts -/
def cutHi {α : Type} (xs : List α) (i : Int) : Option (List α) := if 0 ≤ i ∧ i ≤ xs.length then some (xs.take i.toNat) else none
theorem cutHi_some {α : Type} {xs ys : List α} {i : Int} (h : cutHi xs i = some ys) : 0 ≤ i ∧ i ≤ xs.length ∧ ys = xs.take i.toNat ∧ i.toNat = ys.length := by
  unfold cutHi at h
  split at h
  · rename_i hh
    obtain rfl := Option.some.inj h
    refine ⟨hh.1, hh.2, rfl, ?_⟩
    rw [List.length_take]
    omega
  · cases h
theorem Own.cutHi {T : TypeId} {A : Option Addr} {c base : Nat} {xs ys : List α} {i : Int} (h : Own E T w base (.slice A xs.length c) xs) (hc : cutHi xs i = some ys) : Own E T w base (.slice A ys.length c) ys := by
  obtain ⟨h0, h1, rfl, _⟩ := cutHi_some hc
  exact h.take (by omega)
theorem Rd.cutHi {A : Option Addr} {xs ys : List α} {i : Int} (h : Rd E w A xs) (hc : Go.Proofs.YtccbmdpikalpfaaGreat.cutHi xs i = some ys) : Rd E w A ys := by
  obtain ⟨h0, h1, rfl, _⟩ := cutHi_some hc
  exact h.take _
/-! ### Boxes that a callee writes -/
theorem Grow.of_sto {b : Nat} {x y : World} (s : Sto b x y) : Grow (.pointer (some ⟨b, 0, none⟩)) x y :=
  ⟨s.os, s.tape, s.output, Nat.le_of_eq s.size.symm, fun k _ hne => s.block k (fun e => hne (by rw [e]; rfl))⟩
theorem Grow.sto_young {v : Value} {b : Nat} {x y z : World} (g : Grow v x y) (s : Sto b y z) (h : x.heap.size ≤ b) : Grow v x z :=
  ⟨s.os.trans g.os, s.tape.trans g.tape, s.output.trans g.output, Nat.le_trans g.size (Nat.le_of_eq s.size.symm), fun k hk hne => (s.block k (by omega)).trans (g.block k hk hne)⟩
theorem Rd.blk_lt {A : Option Addr} {n c : Nat} {xs : List α} (h : Rd E w A xs) (hp : 0 < xs.length) (k : Nat) (hk : blk (.slice A n c) = some k) : k < w.heap.size := by
  obtain ⟨ad, rfl, h1, _⟩ := h.cells hp
  obtain rfl : ad.block = k := by simpa [blk] using hk
  exact h1
theorem Rd.moved {w' : World} {A : Option Addr} {xs : List α} (h : Rd E w A xs) (hs : w.heap.size ≤ w'.heap.size) (hm : ∀ a, A = some a → 0 < xs.length → w'.heap[a.block]? = w.heap[a.block]?) : Rd E w' A xs := ⟨h.len, fun hp => by
  obtain ⟨ad, hA, h1, h2⟩ := h.cells hp
  refine ⟨ad, hA, Nat.lt_of_lt_of_le h1 hs, fun j u hu => ?_⟩
  rw [World.cell?_of_block (w := w) (by rw [add_block]; exact hm ad hA hp)]
  exact h2 j u hu⟩
theorem Rd.sto {w' : World} {A : Option Addr} {b c : Nat} {xs : List α} (h : Rd E w A xs) (s : Sto b w w') (hne : ∀ k, blk (.slice A xs.length c) = some k → 0 < xs.length → k ≠ b) : Rd E w' A xs :=
  h.moved (Nat.le_of_eq s.size.symm) fun a hA hp => s.block _ (hne _ (by rw [hA]; rfl) hp)
theorem Rd.growp {w' : World} {A : Option Addr} {b c : Nat} {xs : List α} (h : Rd E w A xs) (g : Grow (.pointer (some ⟨b, 0, none⟩)) w w') (hne : ∀ k, blk (.slice A xs.length c) = some k → 0 < xs.length → k ≠ b) : Rd E w' A xs := by
  rcases Nat.eq_zero_or_pos xs.length with h0 | hp
  · exact ⟨h.len, fun hp => absurd h0 (Nat.ne_of_gt hp)⟩
  · obtain ⟨ad, hA, h1, _⟩ := h.cells hp
    refine h.moved g.size fun a ha _ => ?_
    obtain rfl : ad = a := Option.some.inj (hA.symm.trans ha)
    exact g.block _ h1 (fun e => hne ad.block (by rw [hA]; rfl) hp (Option.some.inj e).symm)
theorem step_appendN (E : Enc α) {t T : TypeId} {z : Value} {bytes base : Nat} {A B : Option Addr} {c m d : Nat} {xs ys zs : List α} (hg : Region.wanted o (yielded ops a.tmps) = true) (s x : Operand)
    (ho : o.op = .call { callee := .builtin .append, args := #[s, x], argTypes := #[t, t] }) (ht : P.underlying t = some (.slice T))
    (hinfo : (P.info? T).map (fun i => (i.zero, i.size, i.bytes)) = some (some z, E.sz, bytes)) (hz : z.cells.size = E.sz) (hb0 : 0 < bytes)
    (hs : a.eval s = .slice A xs.length c) (hx : a.eval x = .slice B m d) (hm : m = ys.length) (HO : Own E T w base (.slice A xs.length c) xs) (HR : Rd E w B ys)
    (hbase : base ≤ w.heap.size) (hl : (xs.length + ys.length) * bytes ≤ 140737488355328) (hzs : some (xs ++ ys) = some zs)
    (k : ∀ A' c' w', Own E T w' base (.slice A' zs.length c') zs → Grow (.slice A xs.length c) w w' → (blk (.slice A' zs.length c') = blk (.slice A xs.length c) ∨ ∀ k, blk (.slice A' zs.length c') = some k → w.heap.size ≤ k) →
      wpList P ops Q rest (a.put o.dst (.slice A' zs.length c')) w') : wpList P ops Q (o :: rest) a w := by
  obtain rfl := Option.some.inj hzs
  exact step_append E hg s x ho ht hinfo hz hb0 hs hx hm HO HR hbase hl k
def cutLo {α : Type} (xs : List α) (i : Int) : Option (List α) := if 0 ≤ i ∧ i ≤ xs.length then some (xs.drop i.toNat) else none
theorem cutLo_some {α : Type} {xs ys : List α} {i : Int} (h : cutLo xs i = some ys) : 0 ≤ i ∧ i ≤ xs.length ∧ ys = xs.drop i.toNat ∧ xs.length - i.toNat = ys.length := by
  unfold cutLo at h
  split at h
  · rename_i hh
    obtain rfl := Option.some.inj h
    exact ⟨hh.1, hh.2, rfl, by rw [List.length_drop]⟩
  · cases h
theorem quiet_cut_h (sz : Nat) {t T : TypeId} {A : Option Addr} {n c : Nat} {i : Int} {xs ys : List α} {C : World → Prop} {x z : Operand} (ho : o.op = .slice t x none (some z) none) (ht : P.underlying t = some (.slice T)) (hsz : (P.info? T).map (·.size) = some sz)
    (hx : a.eval x = .slice A n c) (hz : a.eval z = .int .i64 i) (hcap : xs.length ≤ c) (hc : Go.Proofs.YtccbmdpikalpfaaGreat.cutHi xs i = some ys) : o.quietAt P a C w (.slice A ys.length c) := by
  obtain ⟨h0, h1, rfl, hl⟩ := cutHi_some hc
  rw [← hl]
  exact quiet_cut_hi sz ho ht hsz hx hz h0 (by omega)
theorem step_cut_l (E : Enc α) {t T : TypeId} {A : Option Addr} {n c : Nat} {i : Int} {xs ys : List α} (hg : Region.wanted o (yielded ops a.tmps) = true) {x z : Operand} (ho : o.op = .slice t x (some z) none none) (ht : P.underlying t = some (.slice T)) (hsz : (P.info? T).map (·.size) = some E.sz)
    (hx : a.eval x = .slice A n c) (hn : n = xs.length) (hz : a.eval z = .int .i64 i) (hcap : xs.length ≤ c) (HR : Rd E w A xs) (hc : cutLo xs i = some ys)
    (k : ∀ A' c', Rd E w A' ys → ys.length ≤ c' → wpList P ops Q rest (a.put o.dst (.slice A' ys.length c')) w) : wpList P ops Q (o :: rest) a w := by
  obtain ⟨h0, h1, rfl, hl⟩ := cutLo_some hc
  subst hn
  have := k _ (c - i.toNat) (HR.drop hcap (n := i.toNat) (by omega)) (by rw [List.length_drop]; omega)
  rw [← hl] at this
  exact step_cut_lo E.sz hg ho ht hsz hx hz h0 h1 this
/-! ### The greater and the lesser of two numbers -/
def imax (x y : Int) : Int := if y > x then y else x
def imin (x y : Int) : Int := if y < x then y else x
theorem run_max2 {ats : Array TypeId} {ty : TypeId} {x y : Int} : Builtin.max_ ats ty #[.int .i64 x, .int .i64 y] = pure (.int .i64 (imax x y)) := rfl
theorem run_min2 {ats : Array TypeId} {ty : TypeId} {x y : Int} : Builtin.min_ ats ty #[.int .i64 x, .int .i64 y] = pure (.int .i64 (imin x y)) := rfl
/-! ### Where ways meet -/
def ovm (v : Nat → Value) : Nat → List Bool → List Value → List Value
  | _, [], l => l
  | _, _ :: _, [] => []
  | i, true :: m, _ :: l => v i :: ovm v (i + 1) m l
  | i, false :: m, x :: l => x :: ovm v (i + 1) m l
def ovg (v : Nat → Value) : Nat → List Nat → List Value → List Value
  | _, [], l => l
  | _, _ :: _, [] => []
  | i, 0 :: m, _ :: l => v i :: ovg v (i + 1) m l
  | i, (g + 1) :: m, x :: l => x :: ovg v (i + 1) (g :: m) l
/-! ### Floats and mains in any mixture -/
def apB (ops : Array Oper) (k f : Nat) : Bool := match ops[k]?, ops[f]? with
  | some o, some of => o.apart ops of
  | _, _ => false
theorem apB_spec {k f : Nat} (h : apB ops k f = true) : ∃ o of, ops[k]? = some o ∧ ops[f]? = some of ∧ o.apart ops of = true := by
  unfold apB at h
  split at h
  · rename_i o of h1 h2
    exact ⟨o, of, h1, h2, h⟩
  · cases h
def chainL (ops : Array Oper) : List Nat → Bool
  | [] => true
  | [_] => true
  | k :: l :: r => Region.waitsFor .any ops l k && chainL ops (l :: r)
theorem chainL_tail {k : Nat} {C : List Nat} (h : chainL ops (k :: C) = true) : chainL ops C = true := by
  cases C with
  | nil => rfl
  | cons l r => simp only [chainL, Bool.and_eq_true] at h; exact h.2
theorem chainL_pred {i : Nat} : ∀ {k : Nat} {C : List Nat}, chainL ops (k :: C) = true → i ∈ C → ∃ p ∈ k :: C, Region.waitsFor .any ops i p = true
  | _, [], _, h => by cases h
  | k, l :: r, hc, h => by
    simp only [chainL, Bool.and_eq_true] at hc
    rcases List.mem_cons.1 h with rfl | h
    · exact ⟨k, List.mem_cons_self .., hc.1⟩
    · obtain ⟨p, hp, hw⟩ := chainL_pred hc.2 h
      exact ⟨p, List.mem_cons_of_mem _ hp, hw⟩
def mixB (ops : Array Oper) (F C : List Nat) : Bool :=
  Region.noSelect ops &&
  ((List.range ops.size).all fun i => (F.contains i || C.contains i) && match ops[i]? with
    | none => false
    | some o => o.after.all fun e => !Region.binds .any e || decide (e.on < i)) &&
  ((F ++ C).all fun i => decide (i < ops.size)) && decide ((F ++ C).Nodup) && decide (F.Pairwise (· < ·)) && chainL ops C &&
  (F.all fun i => F.all fun f => decide (i ≤ f) || Region.waitsFor .any ops i f || apB ops i f) &&
  (C.all fun k => F.all fun f => Region.waitsFor .any ops k f || apB ops k f)
theorem ready_waits {i f : Nat} {listed : Array Bool} (hi : i ∈ Region.ready .any ops listed) (hw : Region.waitsFor .any ops i f = true) : listed.getD f true = true := by
  obtain ⟨_, o, ho, hall⟩ := mem_ready.1 hi
  obtain ⟨o', ho', e, he, hb, hon⟩ := Region.waitsFor_spec hw
  obtain rfl := Option.some.inj (ho.symm.trans ho')
  have h2 := hall e he hb
  rw [hon] at h2
  cases h : listed.getD f true with
  | true => rfl
  | false => rw [getD_both h] at h2; cases h2
theorem bringB_of {i : Nat} : ∀ {D : List Nat}, i ∈ D → D.Pairwise (· < ·) → (∀ f ∈ D, f < i → apB ops i f = true) → bringB ops i D = true
  | [], h, _, _ => by cases h
  | f :: D, h, hs, hap => by
    simp only [bringB, Bool.or_eq_true, decide_eq_true_eq, Bool.and_eq_true]
    by_cases hfi : f = i
    · exact .inl hfi
    · rcases List.mem_cons.1 h with rfl | h
      · exact absurd rfl hfi
      · have hlt : f < i := (List.pairwise_cons.1 hs).1 i h
        refine .inr ⟨?_, bringB_of h (List.pairwise_cons.1 hs).2 fun g hg => hap g (List.mem_cons_of_mem _ hg)⟩
        obtain ⟨o, of, h1, h2, h3⟩ := apB_spec (hap f (List.mem_cons_self ..) hlt)
        simp only [h1, h2, h3]
theorem putD_defers {val : Nat → Value} {x : List Deferred} : ∀ (D : List Nat) (a : Act), putD ops val D { a with defers := x } = { putD ops val D a with defers := x }
  | [], _ => rfl
  | f :: D, a => by
    simp only [putD]
    have : putF1 ops val f { a with defers := x } = { putF1 ops val f a with defers := x } := by
      unfold putF1
      split
      · rename_i o _
        cases o.dst <;> rfl
      · rfl
    rw [this, putD_defers D]
theorem putD_defers' {val : Nat → Value} : ∀ (D : List Nat) (a : Act), (putD ops val D a).defers = a.defers
  | [], _ => rfl
  | f :: D, a => by
    simp only [putD]
    rw [putD_defers' D]
    unfold putF1
    split
    · exact Act.put_defers' ..
    · rfl
theorem FlL_defers {T : World → Prop} {val : Nat → Value} (hsel : Region.noSelect ops = true) {x : List Deferred} : ∀ (D : List Nat) (a : Act), FlL P ops T val D a → FlL P ops T val D { a with defers := x }
  | [], _, _ => trivial
  | f :: D, a, ⟨⟨o, ho, h1, h2⟩, h3⟩ => by
    have he : execOp ({ a with defers := x } : Act).eval o = execOp a.eval o := execOp_agree (ops := ops) (Region.noSelect_spec hsel f o · · ho) fun _ _ => rfl
    refine ⟨⟨o, ho, h1, fun w hw => by rw [he]; exact h2 w hw⟩, ?_⟩
    have : putF1 ops val f { a with defers := x } = { putF1 ops val f a with defers := x } := by
      unfold putF1
      simp only [ho]
      cases o.dst <;> rfl
    rw [this]
    exact FlL_defers hsel D _ h3
theorem mixTail {F C0 : List Nat} {T : World → Prop} {val : Nat → Value} {Q : Exit → Act → World → Prop} (hB : mixB ops F C0 = true) : ∀ (g : Nat) (D C : List Nat) (listed : Array Bool) (a : Act) (w : World),
    D.length + C.length = g → D.Pairwise (· < ·) → (∀ f ∈ D, f ∈ F) → (∀ k ∈ C, k ∈ C0) → C.Nodup → chainL ops C = true → (∀ i, i < ops.size → (listed.getD i true = false ↔ i ∈ D ∨ i ∈ C)) →
    T w → FlL P ops T val D a → wpListU P ops T Q (C.filterMap (ops[·]?)) (putD ops val D a) w → wpAny P .any ops Q g listed a w := by
  simp only [mixB, Bool.and_eq_true, decide_eq_true_eq] at hB
  obtain ⟨⟨⟨⟨⟨⟨⟨hsel, hall⟩, hsz⟩, hnd⟩, hFs⟩, hch⟩, hFF⟩, hCF⟩ := hB
  have hsize : ∀ i, i ∈ F ∨ i ∈ C0 → i < ops.size := fun i hi => by simpa using List.all_eq_true.1 hsz i (List.mem_append.2 hi)
  have hback : ∀ i o, ops[i]? = some o → ∀ e ∈ o.after, Region.binds .any e = true → e.on < i := fun i o ho e he hb => by
    have h1 := List.all_eq_true.1 hall i (List.mem_range.2 (Array.getElem?_eq_some_iff.1 ho).1)
    simp only [ho, Bool.and_eq_true] at h1
    have := Array.all_eq_true_iff_forall_mem.1 h1.2 e he
    simpa [hb] using this
  have hdisj : ∀ i, i ∈ F → i ∈ C0 → False := fun i h1 h2 => (List.nodup_append.1 hnd).2.2 i h1 i h2 rfl
  have hap2 : ∀ i f, i ∈ F → f ∈ F → f < i → Region.waitsFor .any ops i f = true ∨ apB ops i f = true := fun i f hi hf hlt => by
    have := List.all_eq_true.1 (List.all_eq_true.1 hFF i hi) f hf
    simp only [Bool.or_eq_true, decide_eq_true_eq] at this
    rcases this with (h | h) | h
    · omega
    · exact .inl h
    · exact .inr h
  have hap3 : ∀ k f, k ∈ C0 → f ∈ F → Region.waitsFor .any ops k f = true ∨ apB ops k f = true := fun k f hk hf => by
    have := List.all_eq_true.1 (List.all_eq_true.1 hCF k hk) f hf
    simpa only [Bool.or_eq_true] using this
  intro g
  induction g with
  | zero =>
    intro D C listed a w hg hsD hDF hCC hCn hcc hpend hT hF h
    obtain rfl : D = [] := List.eq_nil_of_length_eq_zero (by omega)
    obtain rfl : C = [] := List.eq_nil_of_length_eq_zero (by omega)
    refine ⟨?_, h.2⟩
    apply List.eq_nil_iff_forall_not_mem.2
    intro i hi
    obtain ⟨h1, o, ho, _⟩ := mem_ready.1 hi
    have := (hpend i (Array.getElem?_eq_some_iff.1 ho).1).1 h1
    simp at this
  | succ g ih =>
    intro D C listed a w hg hsD hDF hCC hCn hcc hpend hT hF h
    have hmem : ∀ i, i ∈ D ∨ i ∈ C → i < ops.size := fun i hi => hsize i (hi.imp (hDF i) (hCC i))
    refine ⟨fun hnil => ?_, fun i hi => ?_⟩
    · exfalso
      have hleast : ∀ m, m ∈ D ∨ m ∈ C → False := fun m => by
        induction m using Nat.strongRecOn with
        | _ m ihm =>
          intro hm
          have hms := hmem m hm
          have : m ∈ Region.ready .any ops listed := mem_ready.2 ⟨(hpend m hms).2 hm, ops[m], Array.getElem?_eq_getElem hms, fun e he hb => by
            have hlt := hback m _ (Array.getElem?_eq_getElem hms) e he hb
            cases hL : listed.getD e.on true with
            | false => exact (ihm e.on hlt ((hpend e.on (by omega)).1 hL)).elim
            | true =>
              cases hL2 : listed.getD e.on false with
              | true => rfl
              | false =>
                rcases Nat.lt_or_ge e.on listed.size with h' | h'
                · rw [getD_in h' hL2] at hL; cases hL
                · have : listed.getD m true = true := by simp [Array.getElem?_eq_none (show listed.size ≤ m by omega)]
                  rw [(hpend m hms).2 hm] at this
                  cases this⟩
          rw [hnil] at this
          cases this
      cases D with
      | cons x D => exact hleast x (.inl (List.mem_cons_self ..))
      | nil =>
        cases C with
        | cons x C => exact hleast x (.inr (List.mem_cons_self ..))
        | nil => simp at hg
    · obtain ⟨hun, o, ho, hdeps⟩ := mem_ready.1 hi
      have his : i < ops.size := (Array.getElem?_eq_some_iff.1 ho).1
      have hin := (hpend i his).1 hun
      have hnw : ∀ f, (f ∈ D ∨ f ∈ C) → Region.waitsFor .any ops i f = true → False := fun f hf hw => by
        have h1 := ready_waits hi hw
        rw [(hpend f (hmem f hf)).2 hf] at h1
        cases h1
      have hset : ∀ j, j ≠ i → (listed.setIfInBounds i true).getD j true = listed.getD j true := fun j hj => getD_set_ne true (Ne.symm hj)
      have hseti : (listed.setIfInBounds i true).getD i true = true := by
        by_cases h' : i < listed.size <;> simp [h']
      by_cases hiD : i ∈ D
      · have hbr : bringB ops i D = true := bringB_of hiD hsD fun f hf hlt => (hap2 i f (hDF i hiD) (hDF f hf) hlt).resolve_left fun hw => hnw f (.inl hf) hw
        obtain ⟨⟨o', ho', hw, hr⟩, hF', hput⟩ := bring hsel D a hbr hF
        obtain rfl := Option.some.inj (ho.symm.trans ho')
        unfold wpOp
        simp only [ho]
        rw [if_pos hw]
        refine .inl ?_
        unfold Oper.wp
        rw [hr w hT]
        have e : putF1 ops val i a = a.put o.dst (val i) := by simp [putF1, ho]
        rw [e] at hF' hput
        rw [← hput] at h
        have hnd2 : D.Nodup := hsD.imp fun h => Nat.ne_of_lt h
        refine ih (D.erase i) C _ _ w ?_ (hsD.erase ..) (fun f hf => hDF f (List.mem_of_mem_erase hf)) hCC hCn hcc (fun j hj => ?_) hT hF' h
        · have := List.length_erase_of_mem hiD
          have := List.length_pos_of_mem hiD
          omega
        · by_cases hji : j = i
          · subst hji
            rw [hseti]
            constructor
            · intro h; cases h
            · rintro (h | h)
              · exact absurd rfl ((hnd2.mem_erase_iff).1 h).1
              · exact (hdisj j (hDF j hiD) (hCC j h)).elim
          · rw [hset j hji, hpend j hj, hnd2.mem_erase_iff]
            simp [hji]
      · have hiC : i ∈ C := hin.resolve_left hiD
        cases C with
        | nil => cases hiC
        | cons c C =>
          have hic : i = c := by
            rcases List.mem_cons.1 hiC with h' | h'
            · exact h'
            · obtain ⟨p, hp, hw⟩ := chainL_pred hcc h'
              exact (hnw p (.inr hp) hw).elim
          subst hic
          have hap : ∀ f ∈ D, ∃ of, ops[f]? = some of ∧ o.apart ops of = true := fun f hf => by
            have h1 := (hap3 i f (hCC i hiC) (hDF f hf)).resolve_left fun hw => hnw f (.inl hf) hw
            obtain ⟨o', of, h2, h3, h4⟩ := apB_spec h1
            obtain rfl := Option.some.inj (ho.symm.trans h2)
            exact ⟨of, h3, h4⟩
          rw [List.filterMap_cons_some ho] at h
          obtain ⟨_, h⟩ := h
          have hl := putD_looks (ops := ops) (val := val) D a hap
          have hex : execOp (putD ops val D a).eval o = execOp a.eval o := execOp_agree (Region.noSelect_spec hsel i o · · ho) hl
          have hp' : ∀ j, j < ops.size → ((listed.setIfInBounds i true).getD j true = false ↔ j ∈ D ∨ j ∈ C) := fun j hj => by
            by_cases hji : j = i
            · subst hji
              rw [hseti]
              constructor
              · intro h; cases h
              · rintro (h | h)
                · exact (hiD h).elim
                · exact ((List.nodup_cons.1 hCn).1 h).elim
            · rw [hset j hji, hpend j hj, List.mem_cons]
              simp [hji]
          have next : ∀ b w', FlL P ops T val D b → wpListU P ops T Q (C.filterMap (ops[·]?)) (putD ops val D b) w' → wpAny P .any ops Q g (listed.setIfInBounds i true) b w' := fun b w' hF' h' =>
            ih D C _ b w' (by simp only [List.length_cons] at hg; omega) hsD hDF (fun k hk => hCC k (List.mem_cons_of_mem _ hk)) (List.nodup_cons.1 hCn).2 (chainL_tail hcc) hp' (wpListU_up h') hF' h'
          have key : ∀ v w', wpListU P ops T Q (C.filterMap (ops[·]?)) ((putD ops val D a).put o.dst v) w' → wpAny P .any ops Q g (listed.setIfInBounds i true) (a.put o.dst v) w' := fun v w' h' =>
            next _ _ (FlL_put hsel D a hap hF) (by rw [putD_comm D a hap]; exact h')
          have keyd : ∀ d w', wpListU P ops T Q (C.filterMap (ops[·]?)) ({ putD ops val D a with defers := d :: (putD ops val D a).defers }.put o.dst undef) w' → wpAny P .any ops Q g (listed.setIfInBounds i true) ({ a with defers := d :: a.defers }.put o.dst undef) w' := fun d w' h' =>
            next _ _ (FlL_put hsel D _ hap (FlL_defers hsel D a hF)) (by rw [putD_comm D _ hap, putD_defers, ← putD_defers' (ops := ops) (val := val) D a]; exact h')
          have hwa := wanted_agree (ops := ops) hl
          unfold wpOp
          simp only [ho]
          simp only [wpList] at h
          rw [hwa] at h
          split at h
          · rename_i hw
            rw [if_pos hw]
            rcases h with h | ⟨_, x, y, hx⟩
            · refine .inl ?_
              unfold Oper.wp at h ⊢
              rw [hex] at h
              generalize (execOp a.eval o).run P w = r at h ⊢
              cases r with
              | ok n w' =>
                cases n <;> simp only [Oper.upon] at h ⊢
                case value v => exact key v w' h
                case skip => exact key undef w' h
                case defer d => exact keyd d w' h
                case enter f args =>
                  refine Calls.mono h fun e w'' he => ?_
                  cases e with
                  | returned v => exact key v w'' he
                  | panicked c => exact he.elim
                  | outgrown =>
                    obtain ⟨x, y, hx⟩ := he
                    exact hx.elim
                case row row args => exact Rows.mono h fun v w'' he => key v w'' he
              | halt x w' => cases x <;> simp only [Oper.upon, wrapQ] at h
            · exact absurd hx (by simp [wrapQ])
          · rename_i hw
            rw [if_neg hw]
            exact key undef w h
theorem FlL_val {T : World → Prop} {val val' : Nat → Value} : ∀ {D : List Nat} {a : Act}, (∀ f ∈ D, val' f = val f) → FlL P ops T val D a → FlL P ops T val' D a ∧ putD ops val' D a = putD ops val D a
  | [], _, _, _ => ⟨trivial, rfl⟩
  | f :: D, a, hv, ⟨⟨o, ho, h1, h2⟩, h3⟩ => by
    have e : putF1 ops val' f a = putF1 ops val f a := by
      unfold putF1
      simp only [hv f (List.mem_cons_self ..)]
    obtain ⟨h4, h5⟩ := FlL_val (val' := val') (fun g hg => hv g (List.mem_cons_of_mem _ hg)) h3
    refine ⟨⟨⟨o, ho, h1, fun w hw => by rw [hv f (List.mem_cons_self ..)]; exact h2 w hw⟩, ?_⟩, ?_⟩
    · rw [e]; exact h4
    · simp only [putD]; rw [e]; exact h5
theorem wpK_floats {w0 : World} {T : World → Prop} {K : Act → List Made → Prop} : ∀ (F : List Nat) (ds : List Slot) (i : Nat) (a : Act) (G : List Made), F.Nodup → (∀ f ∈ F, f < ops.size) → (ds.map isPurS).all id = true →
    wpK P ops w0 T K (F.filterMap (ops[·]?)) ds i a G → ∃ val, FlL P ops T val F a ∧ K (putD ops val F a) G
  | [], ds, i, a, G, _, _, hds, h => by
    cases ds with
    | nil => exact ⟨fun _ => undef, trivial, h⟩
    | cons s ds => cases s <;> exact h.elim
  | f :: F, ds, i, a, G, hn, hlt, hds, h => by
    have hf := hlt f (List.mem_cons_self ..)
    have ho : ops[f]? = some ops[f] := Array.getElem?_eq_getElem hf
    rw [List.filterMap_cons_some ho] at h
    cases ds with
    | nil => exact h.elim
    | cons s ds =>
      simp only [List.map_cons, List.all_cons, Bool.and_eq_true] at hds
      cases s with
      | det d => cases hds.1
      | any V f => cases hds.1
      | same j => cases hds.1
      | pur d =>
        obtain ⟨⟨hg, _, hr⟩, h2⟩ := h
        obtain ⟨val, h3, h4⟩ := wpK_floats F ds (i + 1) _ G (List.nodup_cons.1 hn).2 (fun g hg => hlt g (List.mem_cons_of_mem _ hg)) hds.2 h2
        have hne : ∀ g ∈ F, (fun j => if j = f then d else val j) g = val g := fun g hg => by
          have : g ≠ f := fun e => (List.nodup_cons.1 hn).1 (e ▸ hg)
          simp [this]
        obtain ⟨h5, h6⟩ := FlL_val (val' := fun j => if j = f then d else val j) hne h3
        have e : putF1 ops (fun j => if j = f then d else val j) f a = a.put ops[f].dst d := by
          unfold putF1
          simp only [ho, if_true]
        refine ⟨fun j => if j = f then d else val j, ⟨⟨_, ho, wanted_none' hg, fun w hw => by simpa using hr w hw⟩, ?_⟩, ?_⟩
        · rw [e]; exact h5
        · simp only [putD]; rw [e, h6]; exact h4
def pick (l : List Oper) : List Nat → List Oper
  | [] => []
  | f :: F => match l.drop f with
    | [] => pick l F
    | o :: _ => o :: pick l F
theorem pick_eq (l : List Oper) : ∀ F : List Nat, pick l F = F.filterMap (l.toArray[·]?)
  | [] => rfl
  | f :: F => by
    have h : l.toArray[f]? = (l.drop f).head? := by simp [List.head?_drop]
    unfold pick
    cases hd : l.drop f with
    | nil => rw [List.filterMap_cons_none (by rw [h, hd]; rfl)]; exact pick_eq l F
    | cons o r => rw [List.filterMap_cons_some (by rw [h, hd]; rfl), ← pick_eq l F]
theorem wp_region_mix {id : Nat} {Q : Exit → Act → World → Prop} {a : Act} {w : World} {l : List Oper} (T : World → Prop) (F C : List Nat) (ds : List Slot) (hm : P.follows .mixedOrders = true) (hB : mixB l.toArray F C = true) (hds : (ds.map isPurS).all _root_.id = true)
    (hsz : l.length = F.length + C.length) (hT0 : ∀ w', Up w.drew w' → T w')
    (h : wpK P l.toArray w.drew T (fun a' _ => ∀ w', Up w.drew w' → wpListU P l.toArray T Q (pick l C) a' w') (pick l F) ds 0 a []) : (Code.region id l.toArray true).wp P Q a w := by
  rw [pick_eq, pick_eq] at h
  refine wp_region_any hm ?_
  have hB0 := hB
  simp only [mixB, Bool.and_eq_true, decide_eq_true_eq] at hB
  obtain ⟨⟨⟨⟨⟨⟨⟨hsel, hall⟩, hlt⟩, hnd⟩, hFs⟩, hch⟩, hFF⟩, hCF⟩ := hB
  have hnd' := List.nodup_append.1 hnd
  obtain ⟨val, h1, h2⟩ := wpK_floats F ds 0 a [] hnd'.1 (fun f hf => of_decide_eq_true (List.all_eq_true.1 hlt f (List.mem_append_left _ hf))) hds h
  have := mixTail (T := T) hB0 (F.length + C.length) F C (Array.replicate l.toArray.size false) a w.drew rfl hFs (fun _ h => h) (fun _ h => h) hnd'.2.1 hch (fun i hi => by
    constructor
    · intro _
      have h1 := List.all_eq_true.1 hall i (List.mem_range.2 hi)
      simp only [Bool.and_eq_true, Bool.or_eq_true] at h1
      exact h1.1.imp (by simp) (by simp)
    · intro _
      exact getD_in (by simpa using hi) (getD_replicate_false _ _)) (hT0 _ (Up.refl _)) h1 (h2 _ (Up.refl _))
  have e : l.toArray.size = F.length + C.length := by simp [hsz]
  rw [← e] at this
  exact this
end
/-! ### A frame with many slots: the few that were written, told by number; the others by an unknown -/
section
def lookT : List (Nat × Value) → (Nat → Value) → Nat → Value
  | [], b, i => b i
  | (k, v) :: r, b, i => bif Nat.beq i k then v else lookT r b i
def mkL (e : List (Nat × Value)) (b : Nat → Value) : Nat → Nat → List Value
  | _, 0 => []
  | i, k + 1 => lookT e b i :: mkL e b (i + 1) k
def mkT (n : Nat) (e : List (Nat × Value)) (b : Nat → Value) : Array Value := (mkL e b 0 n).toArray
variable {e e' : List (Nat × Value)} {b b' : Nat → Value} {n i k : Nat} {v : Value}
theorem lookT_nil : lookT [] b i = b i := rfl
theorem lookT_cons {r : List (Nat × Value)} : lookT ((k, v) :: r) b i = if i = k then v else lookT r b i := by
  show (bif Nat.beq i k then v else lookT r b i) = _
  by_cases h : i = k
  · subst h; simp
  · rw [if_neg h, show Nat.beq i k = false from Bool.eq_false_iff.mpr fun h2 => h (Nat.eq_of_beq_eq_true h2)]; rfl
theorem mkL_len : ∀ (k i : Nat), (mkL e b i k).length = k
  | 0, _ => rfl
  | k + 1, i => by simp [mkL, mkL_len k]
theorem mkL_get : ∀ (k i j : Nat), j < k → (mkL e b i k)[j]? = some (lookT e b (i + j))
  | 0, _, _, h => absurd h (Nat.not_lt_zero _)
  | k + 1, i, 0, _ => by simp [mkL]
  | k + 1, i, j + 1, h => by simp only [mkL, List.getElem?_cons_succ]; rw [mkL_get k (i + 1) j (by omega)]; congr 2; omega
theorem mkT_size : (mkT n e b).size = n := by simp [mkT, mkL_len]
theorem mkT_get (h : i < n) : (mkT n e b)[i]? = some (lookT e b i) := by simp [mkT, mkL_get n 0 i h]
theorem mkT_getD {d : Value} (h : i < n) : (mkT n e b).getD i d = lookT e b i := by
  rw [Array.getD_eq_getD_getElem?, mkT_get h]; rfl
theorem mkT_ext {x : Array Value} (hs : x.size = n) (h : ∀ i, i < n → x[i]? = some (lookT e b i)) : x = mkT n e b := by
  apply Array.ext_getElem?
  intro i
  rcases Nat.lt_or_ge i n with hi | hi
  · rw [h i hi, mkT_get hi]
  · rw [Array.getElem?_eq_none (by omega), Array.getElem?_eq_none (by rw [mkT_size]; exact hi)]
theorem mkT_set : (mkT n e b).setIfInBounds i v = mkT n ((i, v) :: e) b := by
  refine mkT_ext (by simp [mkT_size]) fun j hj => ?_
  rw [lookT_cons]
  by_cases h : j = i
  · subst h; rw [if_pos rfl]; simp [mkT_size, hj]
  · rw [if_neg h, Array.getElem?_setIfInBounds_ne (Ne.symm h), mkT_get hj]
def keepT (e : List (Nat × Value)) (b : Nat → Value) : List Nat → List (Nat × Value)
  | [] => []
  | k :: r => (k, lookT e b k) :: keepT e b r
theorem lookT_keep : ∀ ks : List Nat, lookT (keepT e b ks) (lookT e b) i = lookT e b i
  | [] => rfl
  | k :: r => by
    rw [keepT, lookT_cons]
    split
    · rename_i h; rw [h]
    · exact lookT_keep r
theorem mkT_keep (ks : List Nat) : mkT n e b = mkT n (keepT e b ks) (lookT e b) := by
  refine mkT_ext mkT_size fun i hi => ?_
  rw [mkT_get hi, lookT_keep]
theorem evT {t : Nat} {d : List Deferred} (hn : Nat.ble (t + 1) n = true) (h : lookT e b t = v) : (Act.mk (mkT n e b) d).eval (.tmp t) = v := by
  rw [← h]; exact mkT_getD (Nat.le_of_ble_eq_true hn)
def isB (v : Value) (x : Bool) : Bool := match v with
  | .bool y => y == x
  | _ => false
theorem wantT {o : Oper} {ops : Array Oper} {j t : Nat} {x r : Bool} (hg : o.guard = some (j, x)) (hd : (ops[j]?).bind (·.dst) = some t) (hn : Nat.ble (t + 1) n = true) (hv : isB (lookT e b t) x = r) : Region.wanted o (yielded ops (mkT n e b)) = r := by
  subst hv
  unfold Region.wanted yielded
  rw [hg]
  simp only [hd, Option.bind_some, mkT_get (Nat.le_of_ble_eq_true hn)]
  generalize lookT e b t = u
  cases u <;> simp [isB]
theorem wp_seq_joinT {P : Program} {x y : Code} {Q : Exit → Act → World → Prop} {w : World} {d : List Deferred} (ks : List Nat) (T : World → Prop)
    (hJ : ∀ (B : Nat → Value) (w' : World), T w' → y.wp P Q ⟨mkT n (keepT e b ks) B, d⟩ w')
    (h : ∀ K : Act → World → Prop, (∀ e' b' w', keepT e' b' ks = keepT e b ks → T w' → K ⟨mkT n e' b', d⟩ w') → x.wp P (Exit.then K Q) ⟨mkT n e b, d⟩ w) : (Code.seq x y).wp P Q ⟨mkT n e b, d⟩ w :=
  wp_seq_k fun K hK => h K fun e' b' w' hk hT => hK _ _ (by rw [mkT_keep ks, hk]; exact hJ _ _ hT)
def nthV : List Value → Nat → Value
  | [], _ => undef
  | x :: _, 0 => x
  | _ :: l, i + 1 => nthV l i
theorem nthV_eq : ∀ (l : List Value) (i : Nat), nthV l i = (l[i]?).getD undef
  | [], _ => by simp [nthV]
  | x :: l, 0 => by simp [nthV]
  | x :: l, i + 1 => by simp [nthV, nthV_eq l i]
theorem calls_T {P : Program} {f : FuncId} {fn : Func} {c : Code} {args : List Value} {w : World} {R : Ending → World → Prop} (ks : List Nat) (hf : P.funcs[f]? = some fn) (hb : fn.body = some c) (hn : fn.ntmps = n) (hle : Nat.ble args.length n = true)
    (h : ∀ B, c.wp P (bodyPost P fn R) ⟨mkT n (keepT [] (nthV args) ks) B, []⟩ w) : Calls P f args.toArray w R := by
  refine calls_of_wp hf hb ?_
  have hl := Nat.le_of_ble_eq_true hle
  have e1 : args.toArray ++ Array.replicate (fn.ntmps - args.toArray.size) undef = mkT n [] (nthV args) := by
    refine mkT_ext (by simp; omega) fun i hi => ?_
    rw [lookT_nil, nthV_eq, Array.getElem?_append]
    split
    · rename_i h1
      have h2 : i < args.length := by simpa using h1
      simp [h2]
    · rename_i h1
      have h2 : args.length ≤ i := by simpa using h1
      rw [List.getElem?_eq_none h2, Array.getElem?_replicate, if_pos (by simp; omega)]
      rfl
  rw [e1, mkT_keep ks]
  exact h _
end
/-! ### Short forms -/
section
variable {P : Program} {ops : Array Oper} {Q : Exit → Act → World → Prop} {a : Act} {w : World} {rest : List Oper} {o : Oper}
theorem nm : (∀ (a : Act) (v : Value), a.put none v = a) ∧ (∀ (a : Act) (i : Nat) (v : Value), a.put (some i) v = { a with tmps := a.tmps.setIfInBounds i v }) ∧ (∀ (l : List Value) (i : Nat) (v : Value), l.toArray.setIfInBounds i v = (l.set i v).toArray) ∧
    (∀ (x y : Value) (l : List Value), (x :: l).set 0 y = y :: l) ∧ (∀ (x y : Value) (l : List Value) (n : Nat), (x :: l).set (n + 1) y = x :: l.set n y) :=
  ⟨fun _ _ => rfl, fun _ _ _ => rfl, fun _ _ _ => List.setIfInBounds_toArray .., fun _ _ _ => rfl, fun _ _ _ _ => rfl⟩
theorem wln (h : Q .normal a w) : wpList P ops Q [] a w := h
theorem wsr {id : Nat} {l : List Oper} {y : Code} (h : ∀ K : Act → World → Prop, (∀ a w, y.wp P Q a w → K a w) → wpList P l.toArray (Exit.then K Q) l a w) : (Code.seq (Code.region id l.toArray false) y).wp P Q a w :=
  wp_seq_k fun K hK => wp_region_lit (h K hK)
theorem stp {cs : List Value} {T : TypeId} (k : ∀ b w', Aside0 (Up w w') → Aside0 (w.heap.size ≤ b) → Aside0 (b < w'.heap.size) → Blk w' b cs T → wpList P ops Q rest (a.put o.dst (.pointer (some ⟨b, 0, none⟩))) w')
    (hg : o.guard = none := by rfl) (hrun : (execOp a.eval o).run P w = .ok (.value (.pointer (some ⟨w.heap.size, 0, none⟩))) (w.alloc (.cells cs.toArray T)) := by go_simp <;> rfl) : wpList P ops Q (o :: rest) a w :=
  step_new (f := fun b => .pointer (some ⟨b, 0, none⟩)) hg hrun fun b w' hu hb hB => k b w' ⟨hu⟩ ⟨hb⟩ ⟨hB.lt⟩ hB
theorem stc {f : FuncId} {args : Array Value} {v : Value} (h : Calls P f args w fun e w' => e = .returned v ∧ Up w w') (k : ∀ w', Aside0 (Up w w') → wpList P ops Q rest (a.put o.dst v) w')
    (hg : o.guard = none := by rfl) (hrun : (execOp a.eval o).run P w = .ok (.enter f args) w := by go_simp <;> rfl) : wpList P ops Q (o :: rest) a w :=
  step_call (wanted_none' hg) hrun h fun e w' ⟨he, hu⟩ => ⟨v, he, k w' ⟨hu⟩⟩
theorem stw {t : TypeId} {x y : Operand} {b : Nat} {old : List Value} {T : TypeId} (cells : List Value) (hB : Blk w b old T) (hg : o.guard = none) (hd : o.dst = none) (ho : o.op = .store t x y) (hx : a.eval x = .pointer (some ⟨b, 0, none⟩)) (hy : a.eval y = .agg cells.toArray)
    (hi : (P.info? t).map (·.size) = some cells.length) (hold : old.length = cells.length) (h1 : cells.all (·.oneCell') = true) (k : ∀ w', Aside0 (Sto b w w') → Blk w' b cells T → wpList P ops Q rest a w') : wpList P ops Q (o :: rest) a w := by
  refine wpList_plain hg fun K hK => ?_
  refine wp_store_row t x y ho b cells.toArray hx hy T old.toArray hB.out (by simpa using hi) (by simpa using hold) (by simpa using h1) (hK _ _ ?_)
  rw [hd]
  have hlt := hB.lt
  refine k _ ⟨⟨rfl, rfl, rfl, ?_, fun j hj => ?_⟩⟩ ⟨?_⟩
  · simp [World.setRow]
  · simp [World.setRow, Array.getElem?_modify, Ne.symm hj]
  · simp [World.setRow, Array.getElem?_modify, hB.out]
theorem bpr {fn : Func} {R : Ending → World → Prop} {v : Value} (hR : R (.returned v) w) (hr : (results fn a.tmps).run P w = .ok v w := by first | rfl | simp [results, go_sem] <;> rfl) (hd : a.defers = [] := by rfl) : bodyPost P fn R .ret a w := bodyPost_ret hr hd hR
theorem bnd {α β : Type} {x : Option α} {f : α → Option β} {r : β} (h : x.bind f = some r) : ∃ y, Aside0 (x = some y) ∧ f y = some r := by
  obtain ⟨y, h1, h2⟩ := Option.bind_eq_some_iff.1 h
  exact ⟨y, ⟨h1⟩, h2⟩
end
end Go.Proofs.YtccbmdpikalpfaaGreat
