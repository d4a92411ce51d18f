/-
  WORDS OF OUR OWN: a region that draws its order, all of whose operations but the last few only let the world grow ('Up'): one walk in the order of the text serves every order. No program in sight.
-/
import Derived.StillTail
import Derived.Deep.Quiet
import Derived.Deep.QuietTactic
import Derived.Below
import Derived.WalkKit
import Derived.KernelRfl
import Derived.Maps.AppendAt
import Derived.Laws.MakeOwn
import Derived.Laws.OwnMore
import Derived.LoopN
namespace Go.Proofs.Ytccbmdpikalpfaa
open Go Go.RowKit
variable {TT : World → Prop}

/-- What stood stands; new blocks may lie behind it. -/
structure Up (w w' : World) : Prop where mk :: (out : Below w.heap.size w w')

theorem Up.refl (w : World) : Up w w := ⟨Below.refl _ _⟩
theorem Up.trans {a b c : World} (h : Up a b) (k : Up b c) : Up a c :=
  ⟨h.out.trans (k.out.mono h.out.size)⟩
theorem Up.size {a b : World} (h : Up a b) : a.heap.size ≤ b.heap.size := h.out.size
theorem Up.alloc {a b : World} (h : Up a b) (o : Obj) : Up a (b.alloc o) := ⟨h.out.alloc h.size o⟩
theorem Up.drew {a b : World} (h : Up a b) : Up a b.drew := ⟨h.out.drew⟩
theorem Up.setCell {a b : World} (h : Up a b) {p : Addr} (hp : a.heap.size ≤ p.block) (u : Value) : Up a (b.setCell p u) := ⟨h.out.setCell hp u⟩
theorem Up.block {a b : World} (h : Up a b) {k : Nat} (hk : k < a.heap.size) : b.heap[k]? = a.heap[k]? := h.out.block k hk
theorem Up.cell {a b : World} (h : Up a b) {p : Addr} (hp : p.block < a.heap.size) : b.cell? p = a.cell? p := h.out.cell hp
theorem Up.frozen {a b : World} (h : Up a b) {p : Addr} (hp : p.block < a.heap.size) : b.frozen? p = a.frozen? p := h.out.frozen hp
/-- A cell that held a value holds it still. -/
theorem Up.kept {a b : World} (h : Up a b) {p : Addr} {v : Value} (hc : a.cell? p = some v) : b.cell? p = some v := (h.cell (World.block_lt_of_cell? a p hc)).trans hc

/-- A package-level variable that holds these cells. -/
structure Gv (w : World) (g : Nat) (cs : List Value) : Prop where
  lt : g < w.heap.size
  cells : ∀ j u, cs[j]? = some u → w.cell? ⟨g, j, none⟩ = some u
theorem Gv.up {w w' : World} {g : Nat} {cs : List Value} (h : Gv w g cs) (u : Up w w') : Gv w' g cs := ⟨Nat.lt_of_lt_of_le h.lt u.size, fun j v hv => (u.cell (p := ⟨g, j, none⟩) h.lt).trans (h.cells j v hv)⟩
theorem Gv.cell {w : World} {g o : Nat} {cs : List Value} {v : Value} (h : Gv w g cs) (hv : cs[o]? = some v) : w.cell? ⟨g, o, none⟩ = some v := h.cells o v hv

/-- The block to which a value leads. -/
def blk : Value → Option Nat
  | .pointer (some a) => some a.block
  | .slice (some a) _ _ => some a.block
  | .tuple ⟨.slice (some a) _ _ :: _⟩ => some a.block
  | _ => none

theorem blk_eq {A : Option Addr} {n m c d : Nat} : blk (.slice A n c) = blk (.slice A m d) := by cases A <;> rfl
/-- A row of one value, which no rule of simp looks into. -/
def repl {α : Type} (n : Nat) (x : α) : List α := List.replicate n x

/-- How an operation of the region is told: a value known ahead; or some value of which V holds, in a new block where 'fresh' says so. -/
inductive Slot where
  | det (d : Value)
  | any (V : Value → World → Prop) (fresh : Bool)
  | same (j : Nat)
  | pur (d : Value)

def Stab (V : Value → World → Prop) : Prop := ∀ v w w', V v w → Up w w' → V v w'

/-- What is told of a value that was made between w and w'. -/
def Got (V : Value → World → Prop) (fresh : Bool) (w : World) (u : Value) (w' : World) : Prop :=
  Up w w' ∧ V u w' ∧ (fresh = true → ∀ b, blk u = some b → w.heap.size ≤ b ∧ b < w'.heap.size)

def freshUpon (P : Program) (w : World) (V : Value → World → Prop) (fresh : Bool) : Result Next → Prop
  | .ok (.value u) w' => Got V fresh w u w'
  | .ok (.enter f args) w' => w' = w ∧ Calls P f args w (fun e w'' => ∃ u, e = .returned u ∧ Got V fresh w u w'')
  | _ => False

def freshAt (P : Program) (o : Oper) (a : Act) (w : World) (V : Value → World → Prop) (fresh : Bool) : Prop := freshUpon P w V fresh ((execOp a.eval o).run P w)

structure Made where
  i : Nat
  v : Value
  V : Value → World → Prop
  f : Bool

/-- What an operation may lean on: what is told of the values of those that it waits for. -/
def LeanOn (o : Oper) (w : World) : List Made → Prop
  | [] => True
  | m :: r => ((o.after.any fun e => Region.binds .any e && e.on == m.i) = true → m.V m.v w) ∧ LeanOn o w r

/-- The value that was made by an operation. -/
def getM : List Made → Nat → Value
  | [], _ => undef
  | m :: r, j => if m.i = j then m.v else getM r j
def hasM : List Made → Nat → Bool
  | [], _ => false
  | m :: r, j => decide (m.i = j) || hasM r j
/-- One operation's duty. -/
def duty (P : Program) (ops : Array Oper) (w0 : World) (TT : World → Prop) (o : Oper) (a : Act) (F : List Made) : Slot → Prop
  | .det d => (Region.wanted o (yielded ops a.tmps) = true ∧ ∀ w, Up w0 w → LeanOn o w F → o.quietAt P a (Up w) w d) ∨ (Region.wanted o (yielded ops a.tmps) = false ∧ d = undef)
  | .any V fr => Region.wanted o (yielded ops a.tmps) = true ∧ Stab V ∧ ∀ w, Up w0 w → LeanOn o w F → freshAt P o a w V fr
  | .pur d => o.guard = none ∧ (∀ w, Up w0 w → TT w) ∧ ∀ w, TT w → (execOp a.eval o).run P w = .ok (.value d) w
  | .same j => Region.wanted o (yielded ops a.tmps) = true ∧ (o.after.any fun e => Region.binds .any e && e.on == j) = true ∧ hasM F j = true ∧ ∀ w, Up w0 w → LeanOn o w F → o.quietAt P a (Up w) w (getM F j)

/-- Values of the fresh kind lie in blocks of their own. -/
def Apart2 (w0 w : World) : List Made → Prop
  | [] => True
  | m :: r => (m.f = true → ∀ b, blk m.v = some b → w0.heap.size ≤ b ∧ b < w.heap.size) ∧ (∀ x ∈ r, m.f = true → x.f = true → ∀ b c, blk m.v = some b → blk x.v = some c → b ≠ c) ∧ m.V m.v w ∧ Apart2 w0 w r

/-- The walk in the order of the text. -/
def wpK (P : Program) (ops : Array Oper) (w0 : World) (TT : World → Prop) (K : Act → List Made → Prop) : List Oper → List Slot → Nat → Act → List Made → Prop
  | [], [], _, a, F => K a F
  | o :: l, .det d :: ds, i, a, F => duty P ops w0 TT o a F (.det d) ∧ wpK P ops w0 TT K l ds (i + 1) (a.put o.dst d) F
  | o :: l, .any V f :: ds, i, a, F => duty P ops w0 TT o a F (.any V f) ∧ ∀ v, wpK P ops w0 TT K l ds (i + 1) (a.put o.dst v) (⟨i, v, V, f⟩ :: F)
  | o :: l, .same j :: ds, i, a, F => duty P ops w0 TT o a F (.same j) ∧ wpK P ops w0 TT K l ds (i + 1) (a.put o.dst (getM F j)) F
  | o :: l, .pur d :: ds, i, a, F => duty P ops w0 TT o a F (.pur d) ∧ wpK P ops w0 TT K l ds (i + 1) (a.put o.dst d) F
  | _, _, _, _, _ => False

/-! ### Why it serves every order -/

section
variable {P : Program} {ops : Array Oper} {w0 : World}

def Dv (ds : List Slot) (vals : Nat → Value) (i : Nat) : Value := match ds[i]? with
  | some (.det d) => d
  | some (.pur d) => d
  | some (.same j) => vals j
  | _ => vals i

def putN (l : List Oper) (ds : List Slot) (vals : Nat → Value) (a : Act) : Nat → Act
  | 0 => a
  | k + 1 => (putN l ds vals a k).put ((l[k]?).bind (·.dst)) (Dv ds vals k)

def madeN (ds : List Slot) (vals : Nat → Value) : Nat → List Made
  | 0 => []
  | k + 1 => match ds[k]? with
    | some (.any V f) => ⟨k, vals k, V, f⟩ :: madeN ds vals k
    | _ => madeN ds vals k

theorem getM_madeN {ds : List Slot} {vals : Nat → Value} {j : Nat} : ∀ {n : Nat}, hasM (madeN ds vals n) j = true → getM (madeN ds vals n) j = vals j
  | 0, h => by cases h
  | n + 1, h => by
    unfold madeN at h ⊢
    split at h
    · rename_i V f hd
      simp only [getM]
      by_cases hnj : n = j
      · rw [if_pos hnj, hnj]
      · rw [if_neg hnj]
        simp only [hasM, hnj, decide_false, Bool.false_or] at h
        exact getM_madeN h
    · exact getM_madeN h

theorem wpK_inst {K : Act → List Made → Prop} (l0 : List Oper) (ds0 : List Slot) (vals : Nat → Value) (a0 : Act) :
    ∀ (l : List Oper) (ds : List Slot) (i : Nat), i + l.length = l0.length → (∀ k, l[k]? = l0[i + k]?) → (∀ k, ds[k]? = ds0[i + k]?) →
    wpK P ops w0 TT K l ds i (putN l0 ds0 vals a0 i) (madeN ds0 vals i) →
    (∀ k o, i ≤ k → l0[k]? = some o → ∃ s, ds0[k]? = some s ∧ duty P ops w0 TT o (putN l0 ds0 vals a0 k) (madeN ds0 vals k) s) ∧ K (putN l0 ds0 vals a0 l0.length) (madeN ds0 vals l0.length) := by
  intro l
  induction l with
  | nil =>
    intro ds i hi hl hd h
    have hi' : i = l0.length := by simpa using hi
    subst hi'
    refine ⟨fun k o hk ho => ?_, ?_⟩
    · have := (List.getElem?_eq_some_iff.1 ho).1
      omega
    · cases ds with
      | nil => exact h
      | cons s ds => cases s <;> exact h.elim
  | cons o l ih =>
    intro ds i hi hl hd h
    have ho : l0[i]? = some o := by simpa using (hl 0).symm
    cases ds with
    | nil => exact h.elim
    | cons s ds =>
      have hs : ds0[i]? = some s := by simpa using (hd 0).symm
      have hl' : ∀ k, l[k]? = l0[i + 1 + k]? := fun k => by have := hl (k + 1); simpa [Nat.add_assoc, Nat.add_comm 1 k] using this
      have hd' : ∀ k, ds[k]? = ds0[i + 1 + k]? := fun k => by have := hd (k + 1); simpa [Nat.add_assoc, Nat.add_comm 1 k] using this
      have hi' : i + 1 + l.length = l0.length := by simp only [List.length_cons] at hi; omega
      have fin : duty P ops w0 TT o (putN l0 ds0 vals a0 i) (madeN ds0 vals i) s → wpK P ops w0 TT K l ds (i + 1) (putN l0 ds0 vals a0 (i + 1)) (madeN ds0 vals (i + 1)) →
          (∀ k o, i ≤ k → l0[k]? = some o → ∃ s, ds0[k]? = some s ∧ duty P ops w0 TT o (putN l0 ds0 vals a0 k) (madeN ds0 vals k) s) ∧ K (putN l0 ds0 vals a0 l0.length) (madeN ds0 vals l0.length) := fun h1 h2 => by
        obtain ⟨h3, h4⟩ := ih ds (i + 1) hi' hl' hd' h2
        refine ⟨fun k o' hk ho' => ?_, h4⟩
        by_cases hik : i = k
        · subst hik
          obtain rfl : o = o' := Option.some.inj (ho.symm.trans ho')
          exact ⟨s, hs, h1⟩
        · exact h3 k o' (by omega) ho'
      cases s with
      | det d =>
        obtain ⟨h1, h2⟩ := h
        refine fin h1 ?_
        have e1 : putN l0 ds0 vals a0 (i + 1) = (putN l0 ds0 vals a0 i).put o.dst d := by simp [putN, ho, Dv, hs]
        have e2 : madeN ds0 vals (i + 1) = madeN ds0 vals i := by simp [madeN, hs]
        rw [e1, e2]; exact h2
      | pur d =>
        obtain ⟨h1, h2⟩ := h
        refine fin h1 ?_
        have e1 : putN l0 ds0 vals a0 (i + 1) = (putN l0 ds0 vals a0 i).put o.dst d := by simp [putN, ho, Dv, hs]
        have e2 : madeN ds0 vals (i + 1) = madeN ds0 vals i := by simp [madeN, hs]
        rw [e1, e2]; exact h2
      | any V f =>
        obtain ⟨h1, h2⟩ := h
        refine fin h1 ?_
        have e1 : putN l0 ds0 vals a0 (i + 1) = (putN l0 ds0 vals a0 i).put o.dst (vals i) := by simp [putN, ho, Dv, hs]
        have e2 : madeN ds0 vals (i + 1) = ⟨i, vals i, V, f⟩ :: madeN ds0 vals i := by simp [madeN, hs]
        rw [e1, e2]; exact h2 (vals i)
      | same j =>
        obtain ⟨h1, h2⟩ := h
        refine fin h1 ?_
        have e1 : putN l0 ds0 vals a0 (i + 1) = (putN l0 ds0 vals a0 i).put o.dst (vals j) := by simp [putN, ho, Dv, hs]
        have e2 : madeN ds0 vals (i + 1) = madeN ds0 vals i := by simp [madeN, hs]
        rw [e1, e2, ← getM_madeN h1.2.2.1]; exact h2

/-- The state holds what the listed operations left. -/
structure Agrees (l : List Oper) (ds : List Slot) (a0 : Act) (L : Nat → Bool) (vals : Nat → Value) (a : Act) : Prop where
  defers : a.defers = a0.defers
  size : a.tmps.size = a0.tmps.size
  old : ∀ t, (∀ j, j < l.length → L j = true → (l[j]?).bind (·.dst) ≠ some t) → a.tmps[t]? = a0.tmps[t]?
  new : ∀ j t, j < l.length → L j = true → (l[j]?).bind (·.dst) = some t → t < a0.tmps.size → a.tmps[t]? = some (Dv ds vals j)

theorem Agrees.same {l : List Oper} {ds : List Slot} {a0 a a' : Act} {L L' : Nat → Bool} {vals : Nat → Value} (h : Agrees l ds a0 L vals a) (h' : Agrees l ds a0 L' vals a') {t : Nat}
    (hL : ∀ j, j < l.length → (l[j]?).bind (·.dst) = some t → L j = true ∧ L' j = true) : a.tmps[t]? = a'.tmps[t]? := by
  by_cases he : ∃ j, j < l.length ∧ (l[j]?).bind (·.dst) = some t
  · obtain ⟨j, hj, hd⟩ := he
    obtain ⟨h1, h2⟩ := hL j hj hd
    rcases Nat.lt_or_ge t a0.tmps.size with ht | ht
    · rw [h.new j t hj h1 hd ht, h'.new j t hj h2 hd ht]
    · rw [Array.getElem?_eq_none (by rw [h.size]; exact ht), Array.getElem?_eq_none (by rw [h'.size]; exact ht)]
  · rw [h.old t (fun j hj _ hd => he ⟨j, hj, hd⟩), h'.old t (fun j hj _ hd => he ⟨j, hj, hd⟩)]

theorem Act.put_size (a : Act) (d : Option Tmp) (v : Value) : (a.put d v).tmps.size = a.tmps.size := by cases d <;> simp [Act.put]
theorem Act.put_defers' (a : Act) (d : Option Tmp) (v : Value) : (a.put d v).defers = a.defers := by cases d <;> rfl
theorem Act.put_ne (a : Act) {d : Option Tmp} (v : Value) {t : Nat} (h : d ≠ some t) : (a.put d v).tmps[t]? = a.tmps[t]? := by
  cases d with
  | none => rfl
  | some d =>
    have : d ≠ t := fun e => h (by rw [e])
    simp [Act.put, Array.getElem?_setIfInBounds_ne this]
theorem Act.put_eq (a : Act) (v : Value) {t : Nat} (h : t < a.tmps.size) : (a.put (some t) v).tmps[t]? = some v := by
  simp [Act.put, h]

theorem Agrees.step {l : List Oper} {ds : List Slot} {a0 a : Act} {L L' : Nat → Bool} {vals vals' : Nat → Value} (h : Agrees l ds a0 L vals a) {i : Nat} {o : Oper} (hi : i < l.length) (ho : l[i]? = some o)
    (hdist : ∀ j, j < l.length → j ≠ i → ∀ t, (l[j]?).bind (·.dst) = some t → o.dst ≠ some t) (hLi : L' i = true) (hL : ∀ j, j ≠ i → L' j = L j) (hv : ∀ j, L j = true → j ≠ i → Dv ds vals' j = Dv ds vals j) :
    Agrees l ds a0 L' vals' (a.put o.dst (Dv ds vals' i)) := by
  refine ⟨by rw [Act.put_defers', h.defers], by rw [Act.put_size, h.size], fun t ht => ?_, fun j t hj hLj hd hts => ?_⟩
  · have h1 : o.dst ≠ some t := by have := ht i hi hLi; simpa [ho] using this
    rw [Act.put_ne _ _ h1]
    exact h.old t (fun j hj hLj => ht j hj (by by_cases hji : j = i; · rw [hji]; exact hLi
                                               · rw [hL j hji]; exact hLj))
  · by_cases hji : j = i
    · subst hji
      have : o.dst = some t := by simpa [ho] using hd
      rw [this, Act.put_eq _ _ (by rw [h.size]; exact hts)]
    · rw [Act.put_ne _ _ (hdist j hj hji t hd), h.new j t hj (by rw [← hL j hji]; exact hLj) hd hts, hv j (by rw [← hL j hji]; exact hLj) hji]

theorem putN_agrees (l : List Oper) (ds : List Slot) (vals : Nat → Value) (a0 : Act) (hdist : ∀ i j, i < l.length → j < l.length → j ≠ i → ∀ o, l[i]? = some o → ∀ t, (l[j]?).bind (·.dst) = some t → o.dst ≠ some t) :
    ∀ k, k ≤ l.length → Agrees l ds a0 (fun j => decide (j < k)) vals (putN l ds vals a0 k)
  | 0, _ => ⟨rfl, rfl, fun _ _ => rfl, fun j t _ h => by simp at h⟩
  | k + 1, hk => by
    have ih := putN_agrees l ds vals a0 hdist k (by omega)
    have hk' : k < l.length := by omega
    have ho : l[k]? = some l[k] := List.getElem?_eq_getElem hk'
    have := ih.step (L' := fun j => decide (j < k + 1)) (vals' := vals) hk' ho (fun j hj hjk t hd => hdist k j hk' hj hjk _ ho t hd) (by simp) (fun j hj => by simp only [decide_eq_decide]; omega) (fun _ _ _ => rfl)
    simpa [putN, ho] using this

theorem execOp_agree {o : Oper} (hs : ∀ cs b, o.op ≠ .select cs b) {a a' : Act} (h : ∀ t ∈ o.looksAt ops, a.tmps[t]? = a'.tmps[t]?) : execOp a.eval o = execOp a'.eval o :=
  execOp_congr o hs fun x hx => by
    cases x with
    | tmp t =>
      have := h t (List.mem_append_left _ (List.mem_filterMap.2 ⟨.tmp t, by simpa using hx, rfl⟩))
      simp [Act.eval, Array.getD_eq_getD_getElem?, this]
    | _ => rfl

theorem wanted_agree {o : Oper} {a a' : Act} (h : ∀ t ∈ o.looksAt ops, a.tmps[t]? = a'.tmps[t]?) : Region.wanted o (yielded ops a.tmps) = Region.wanted o (yielded ops a'.tmps) := by
  unfold Region.wanted
  cases hg : o.guard with
  | none => rfl
  | some gw =>
    obtain ⟨g, want⟩ := gw
    have : yielded ops a.tmps g = yielded ops a'.tmps g := by
      unfold yielded
      cases ht : (ops[g]?).bind (·.dst) with
      | none => rfl
      | some t =>
        have h1 := h t (by simp [Oper.looksAt, hg, ht])
        simp only [Option.bind_some]
        rw [h1]
    simp only [this]

theorem wpAny_more {md : Region.Mode} {Q : Exit → Act → World → Prop} : ∀ (k : Nat) (listed : Array Bool) (a : Act) (w : World), wpAny P md ops Q k listed a w → wpAny P md ops Q (k + 1) listed a w
  | 0, _, _, _, h => ⟨fun _ => h.2, by rw [h.1]; simp⟩
  | k + 1, _, _, _, h => ⟨h.1, fun i hi => wpOp_mono (fun a' w' h' => wpAny_more k _ a' w' h') (h.2 i hi)⟩
/-- How many of the first n are not listed yet. -/
def cnt (L : Nat → Bool) : Nat → Nat
  | 0 => 0
  | k + 1 => cnt L k + if L k then 0 else 1
theorem cnt_same {L L' : Nat → Bool} : ∀ k, (∀ j, j < k → L' j = L j) → cnt L' k = cnt L k
  | 0, _ => rfl
  | k + 1, h => by simp only [cnt, h k (by omega), cnt_same k (fun j hj => h j (by omega))]
theorem cnt_one {L L' : Nat → Bool} {i : Nat} (h0 : L i = false) (h1 : L' i = true) (h : ∀ j, j ≠ i → L' j = L j) : ∀ k, i < k → cnt L k = cnt L' k + 1
  | 0, hk => by omega
  | k + 1, hk => by
    by_cases hik : i = k
    · subst hik
      simp only [cnt, h0, h1, cnt_same i (fun j hj => h j (by omega))]
      simp
    · simp only [cnt, h k (Ne.symm hik), cnt_one h0 h1 h k (by omega)]
      omega
theorem cnt_zero {L : Nat → Bool} : ∀ {k}, cnt L k = 0 → ∀ i, i < k → L i = true
  | 0, _, i, hi => by omega
  | k + 1, h, i, hi => by
    simp only [cnt] at h
    by_cases hik : i = k
    · subst hik
      cases hL : L i with
      | true => rfl
      | false => simp [hL] at h
    · exact cnt_zero (k := k) (by omega) i (by omega)
theorem cnt_le {L : Nat → Bool} : ∀ k, cnt L k ≤ k
  | 0 => Nat.le_refl _
  | k + 1 => by simp only [cnt]; have := cnt_le (L := L) k; split <;> omega

def headOf (m n : Nat) : Array Bool := ((List.range m).map fun i => decide (i < n)).toArray

/-- What is asked of the region's form: closed, for the kernel. -/
def kB (ops : Array Oper) (n : Nat) : Bool :=
  Region.noSelect ops && decide (n ≤ ops.size) && (decide (n = ops.size) || (Region.sinkB .any ops n && Region.chainB .any ops n)) && Region.seqB .any ops (ops.size - n) n (headOf ops.size n) &&
  (List.range n).all fun i => match ops[i]? with
    | none => false
    | some o => (o.after.all fun e => !Region.binds .any e || decide (e.on < i)) &&
      (List.range n).all fun j => match (ops[j]?).bind (·.dst) with
        | none => true
        | some d => (decide (j = i) || o.dst != some d) && (!(o.looksAt ops).contains d || (decide (j < i) && o.after.any fun e => Region.binds .any e && e.on == j))

structure Facts (ds : List Slot) (w0 : World) (n : Nat) (L : Nat → Bool) (vals : Nat → Value) (w : World) : Prop where
  told : ∀ i V f, i < n → L i = true → ds[i]? = some (.any V f) → V (vals i) w ∧ (f = true → ∀ b, blk (vals i) = some b → w0.heap.size ≤ b ∧ b < w.heap.size)
  apart : ∀ i j V V', i < n → j < n → i ≠ j → L i = true → L j = true → ds[i]? = some (.any V true) → ds[j]? = some (.any V' true) → ∀ b c, blk (vals i) = some b → blk (vals j) = some c → b ≠ c

theorem mem_madeN {ds : List Slot} {vals : Nat → Value} : ∀ {n : Nat} {m : Made}, m ∈ madeN ds vals n → m.i < n ∧ ds[m.i]? = some (.any m.V m.f) ∧ m.v = vals m.i
  | 0, m, h => by cases h
  | n + 1, m, h => by
    unfold madeN at h
    split at h
    · rename_i V f hd
      rcases List.mem_cons.1 h with rfl | h
      · exact ⟨by simp, hd, rfl⟩
      · have := mem_madeN h; exact ⟨by omega, this.2⟩
    · have := mem_madeN h; exact ⟨by omega, this.2⟩

theorem apart2_of_facts {ds : List Slot} {n : Nat} {vals : Nat → Value} {w : World} (h : Facts ds w0 n (fun _ => true) vals w) : ∀ k, k ≤ n → Apart2 w0 w (madeN ds vals k)
  | 0, _ => trivial
  | k + 1, hk => by
    have ih := apart2_of_facts h k (by omega)
    unfold madeN
    split
    · rename_i V f hd
      have h1 := h.told k V f (by omega) rfl hd
      refine ⟨h1.2, fun x hx hf hxf b c hb hc => ?_, h1.1, ih⟩
      obtain ⟨hx1, hx2, hx3⟩ := mem_madeN hx
      dsimp only at hf hb
      subst hf
      rw [hxf] at hx2
      rw [hx3] at hc
      exact h.apart k x.i V x.V (by omega) (by omega) (by omega) rfl rfl hd hx2 b c hb hc
    · exact ih

theorem leanOn_of {o : Oper} {w : World} : ∀ {F : List Made}, (∀ m ∈ F, (o.after.any fun e => Region.binds .any e && e.on == m.i) = true → m.V m.v w) → LeanOn o w F
  | [], _ => trivial
  | m :: _, h => ⟨h m (List.mem_cons_self ..), leanOn_of fun x hx => h x (List.mem_cons_of_mem _ hx)⟩

theorem kripke {n : Nat} {ds : List Slot} {a0 : Act} {Q : Exit → Act → World → Prop} (hB : kB ops n = true)
    (hduty : ∀ (vals : Nat → Value) k o, k < n → ops[k]? = some o → ∃ s, ds[k]? = some s ∧ duty P ops w0 TT o (putN (ops.toList.take n) ds vals a0 k) (madeN ds vals k) s)
    (hend : ∀ vals w, Up w0 w → Apart2 w0 w (madeN ds vals n) → wpList P ops Q (ops.toList.drop n) (putN (ops.toList.take n) ds vals a0 n) w) :
    ∀ (f : Nat) (listed : Array Bool) (vals : Nat → Value) (a : Act) (w : World), HeadInv .any ops n listed → Agrees (ops.toList.take n) ds a0 (fun j => listed.getD j false) vals a → Up w0 w →
      Facts ds w0 n (fun j => listed.getD j false) vals w → cnt (fun j => listed.getD j false) n ≤ f → wpAny P .any ops Q (f + (ops.size - n)) listed a w := by
  have hB0 := hB
  simp only [kB, Bool.and_eq_true, Bool.or_eq_true, decide_eq_true_eq] at hB
  obtain ⟨⟨⟨⟨hsel, hn⟩, htail⟩, hseq⟩, hall⟩ := hB
  have hlen : (ops.toList.take n).length = n := by simp; omega
  have hget : ∀ k, k < n → (ops.toList.take n)[k]? = ops[k]? := fun k hk => by simp [hk]
  have hform : ∀ i o, i < n → ops[i]? = some o → (∀ e ∈ o.after, Region.binds .any e = true → e.on < i) ∧ ∀ j d, j < n → (ops[j]?).bind (·.dst) = some d → (j ≠ i → o.dst ≠ some d) ∧ (d ∈ o.looksAt ops → j < i ∧ ∃ e ∈ o.after, Region.binds .any e = true ∧ e.on = j) := fun i o hi ho => by
    have h1 := List.all_eq_true.1 hall i (List.mem_range.2 hi)
    simp only [ho, Bool.and_eq_true] at h1
    obtain ⟨h2, h3⟩ := h1
    refine ⟨fun e he hb => ?_, fun j d hj hd => ?_⟩
    · have := Array.all_eq_true_iff_forall_mem.1 h2 e he
      simpa [hb] using this
    · have h4 := List.all_eq_true.1 h3 j (List.mem_range.2 hj)
      simp only [hd, Bool.and_eq_true, Bool.or_eq_true, decide_eq_true_eq, bne_iff_ne, ne_eq] at h4
      refine ⟨fun hji => h4.1.resolve_left hji, fun hm => ?_⟩
      rcases h4.2 with h5 | ⟨h5, h6⟩
      · simp [hm] at h5
      · obtain ⟨e, he, hb⟩ := Array.any_eq_true'.1 h6
        simp only [Bool.and_eq_true, beq_iff_eq] at hb
        exact ⟨h5, e, he, hb.1, hb.2⟩
  have hdist : ∀ i j, i < (ops.toList.take n).length → j < (ops.toList.take n).length → j ≠ i → ∀ o, (ops.toList.take n)[i]? = some o → ∀ t, ((ops.toList.take n)[j]?).bind (·.dst) = some t → o.dst ≠ some t := fun i j hi hj hji o ho t hd => by
    rw [hlen] at hi hj
    rw [hget i hi] at ho
    rw [hget j hj] at hd
    exact ((hform i o hi ho).2 j t hj hd).1 hji
  intro f
  induction f with
  | zero =>
    intro listed vals a w inv hag hup hfacts hc
    have hz := cnt_zero (Nat.le_zero.1 hc)
    have hfull : listed = headOf ops.size n := by
      apply Array.ext_getElem?
      intro i
      rcases Nat.lt_or_ge i ops.size with h | h
      · have hr : (headOf ops.size n)[i]? = some (decide (i < n)) := by simp [headOf, h]
        rw [hr]
        have hi' : i < listed.size := by rw [inv.size]; exact h
        rw [Array.getElem?_eq_getElem hi']
        by_cases hin : i < n
        · have := hz i hin
          simp [hi'] at this
          simp [this, hin]
        · have := inv.tail i (by omega) h
          simp [hi'] at this
          simp [this, hin]
      · rw [Array.getElem?_eq_none (by rw [inv.size]; exact h), Array.getElem?_eq_none (by simp [headOf]; exact h)]
    have hfin : Agrees (ops.toList.take n) ds a0 (fun j => decide (j < n)) vals (putN (ops.toList.take n) ds vals a0 n) := putN_agrees _ ds vals a0 hdist n (by omega)
    have hae : a = putN (ops.toList.take n) ds vals a0 n := by
      have h1 : a.tmps = (putN (ops.toList.take n) ds vals a0 n).tmps := by
        apply Array.ext_getElem?
        intro t
        exact hag.same hfin (fun j hj _ => ⟨hz j (by rw [hlen] at hj; exact hj), by rw [hlen] at hj; simpa using hj⟩)
      have h2 : a.defers = (putN (ops.toList.take n) ds vals a0 n).defers := by rw [hag.defers, hfin.defers]
      cases a
      generalize putN (ops.toList.take n) ds vals a0 n = y at *
      cases y
      simp only at h1 h2
      rw [h1, h2]
    have hf2 : Facts ds w0 n (fun _ => true) vals w := ⟨fun i V f hi _ hd => hfacts.told i V f hi (hz i hi) hd, fun i j V V' hi hj hij _ _ h1 h2 => hfacts.apart i j V V' hi hj hij (hz i hi) (hz j hj) h1 h2⟩
    have hw := hend vals w hup (apart2_of_facts hf2 n (Nat.le_refl _))
    rw [hae, Nat.zero_add]
    have hdl : (ops.toList.drop n).length = ops.size - n := by simp
    have := wpAny_of_seq (P := P) (md := .any) (Q' := Q) (ops.toList.drop n) n listed _ w (fun j => by simp [List.getElem?_drop]) (by rw [hdl, hfull]; exact hseq) hw
    rwa [hdl] at this
  | succ f ih =>
    intro listed vals a w inv hag hup hfacts hc
    by_cases hdone : cnt (fun j => listed.getD j false) n = 0
    · have := ih listed vals a w inv hag hup hfacts (by omega)
      have h2 := wpAny_more _ _ _ _ this
      rwa [show f + (ops.size - n) + 1 = f + 1 + (ops.size - n) by omega] at h2
    · rw [show f + 1 + (ops.size - n) = (f + (ops.size - n)) + 1 by omega]
      -- some number below n is not listed
      obtain ⟨i0, hi0, hun0⟩ : ∃ i, i < n ∧ listed.getD i false = false := by
        apply Classical.byContradiction
        intro hno
        refine hdone ?_
        have hallL : ∀ i, i < n → listed.getD i false = true := fun i hi => by
          cases hL : listed.getD i false with
          | true => rfl
          | false => exact absurd ⟨i, hi, hL⟩ hno
        have hk : ∀ k, k ≤ n → cnt (fun j => listed.getD j false) k = 0 := fun k => by
          induction k with
          | zero => intro _; rfl
          | succ k ihk => intro hk; simp only [cnt, ihk (by omega), hallL k (by omega)]; rfl
        exact hk n (Nat.le_refl _)
      have hsmall : ∀ i, i ∈ Region.ready .any ops listed → i < n := fun i hi => by
        rcases htail with he | ⟨hs, hch⟩
        · obtain ⟨_, o, ho, _⟩ := mem_ready.1 hi
          have := (Array.getElem?_eq_some_iff.1 ho).1
          omega
        · by_cases hlt : n < ops.size
          · apply Nat.lt_of_not_le
            intro hle
            have hs0 : i0 < listed.size := by rw [inv.size]; omega
            exact tail_waits hs hch hlt inv _ i0 rfl hi0 (getD_in hs0 hun0) i hle hi
          · obtain ⟨_, o, ho, _⟩ := mem_ready.1 hi
            have := (Array.getElem?_eq_some_iff.1 ho).1
            omega
      refine ⟨fun hnil => ?_, fun i hi => ?_⟩
      · -- the least one that is not listed may come up
        exfalso
        have hleast : ∀ m, m < n → listed.getD m false = false → False := fun m => by
          induction m using Nat.strongRecOn with
          | _ m ihm =>
            intro hm hmun
            have hms : m < ops.size := by omega
            have : m ∈ Region.ready .any ops listed := mem_ready.2 ⟨getD_in (by rw [inv.size]; exact hms) hmun, ops[m], Array.getElem?_eq_getElem hms, fun e he hb => by
              have hlt := (hform m _ hm (Array.getElem?_eq_getElem hms)).1 e he hb
              cases hL : listed.getD e.on false with
              | true => rfl
              | false => exact (ihm e.on hlt (by omega) hL).elim⟩
            rw [hnil] at this
            cases this
        exact hleast i0 hi0 hun0
      · have hin := hsmall i hi
        obtain ⟨hunT, o, ho, hdeps⟩ := mem_ready.1 hi
        have hun : listed.getD i false = false := getD_both hunT
        have his : i < listed.size := by rw [inv.size]; omega
        have hil : i < (ops.toList.take n).length := by rw [hlen]; exact hin
        have hol : (ops.toList.take n)[i]? = some o := by rw [hget i hin]; exact ho
        obtain ⟨s, hs, hd⟩ := hduty vals i o hin ho
        have hpre : Agrees (ops.toList.take n) ds a0 (fun j => decide (j < i)) vals (putN (ops.toList.take n) ds vals a0 i) := putN_agrees _ ds vals a0 hdist i (by omega)
        have hlook : ∀ t ∈ o.looksAt ops, a.tmps[t]? = (putN (ops.toList.take n) ds vals a0 i).tmps[t]? := fun t ht => hag.same hpre fun j hj hd => by
          rw [hlen] at hj
          rw [hget j hj] at hd
          obtain ⟨hji, e, he, hb, hon⟩ := ((hform i o hin ho).2 j t hj hd).2 ht
          exact ⟨by have := hdeps e he hb; rw [hon] at this; exact this, by simpa using hji⟩
        have hex : execOp a.eval o = execOp (putN (ops.toList.take n) ds vals a0 i).eval o := execOp_agree (Region.noSelect_spec hsel i o · · ho) hlook
        have hwa := wanted_agree (ops := ops) hlook
        have hlean : LeanOn o w (madeN ds vals i) := leanOn_of fun m hm hdep => by
          obtain ⟨hmi, hmd, hmv⟩ := mem_madeN hm
          obtain ⟨e, he, hb⟩ := Array.any_eq_true'.1 hdep
          simp only [Bool.and_eq_true, beq_iff_eq] at hb
          have hl := hdeps e he hb.1
          rw [hb.2] at hl
          rw [hmv]
          exact (hfacts.told m.i m.V m.f (by omega) hl hmd).1
        have hset : ∀ j, j ≠ i → (listed.setIfInBounds i true).getD j false = listed.getD j false := fun j hj => getD_set_ne false (Ne.symm hj)
        have hseti : (listed.setIfInBounds i true).getD i false = true := by simp [his]
        have hcnt : cnt (fun j => (listed.setIfInBounds i true).getD j false) n ≤ f := by
          have := cnt_one (L := fun j => listed.getD j false) (L' := fun j => (listed.setIfInBounds i true).getD j false) hun hseti hset n hin
          omega
        have hdist' : ∀ j, j < (ops.toList.take n).length → j ≠ i → ∀ t, ((ops.toList.take n)[j]?).bind (·.dst) = some t → o.dst ≠ some t := fun j hj hji t hd => hdist i j hil hj hji o hol t hd
        have inv' := inv.set hi hin
        -- with a value that is known
        have keyD : ∀ d, Dv ds vals i = d → (∀ V f, s ≠ .any V f) → ∀ w', Up w w' → wpAny P .any ops Q (f + (ops.size - n)) (listed.setIfInBounds i true) (a.put o.dst d) w' := fun d hDv hna w' huw => by
          have := hag.step (L' := fun j => (listed.setIfInBounds i true).getD j false) (vals' := vals) hil hol hdist' hseti hset (fun _ _ _ => rfl)
          rw [hDv] at this
          refine ih _ vals _ w' inv' this (hup.trans huw) ⟨fun k V f hk hL hdk => ?_, fun k m V V' hk hm hkm hLk hLm hdk hdm => ?_⟩ hcnt
          · have hki : k ≠ i := fun e => by subst e; rw [hs] at hdk; exact hna _ _ (Option.some.inj hdk)
            replace hL : listed.getD k false = true := (hset k hki).symm.trans hL
            have h1 := hfacts.told k V f hk hL hdk
            obtain ⟨s', hs', hd'⟩ := hduty vals k ops[k] hk (Array.getElem?_eq_getElem (by omega))
            rw [hdk] at hs'
            obtain rfl := Option.some.inj hs'
            exact ⟨hd'.2.1 _ _ _ h1.1 huw, fun hf b hb => ⟨(h1.2 hf b hb).1, Nat.lt_of_lt_of_le (h1.2 hf b hb).2 huw.size⟩⟩
          · have hki : k ≠ i := fun e => by subst e; rw [hs] at hdk; exact hna _ _ (Option.some.inj hdk)
            have hmi : m ≠ i := fun e => by subst e; rw [hs] at hdm; exact hna _ _ (Option.some.inj hdm)
            replace hLk : listed.getD k false = true := (hset k hki).symm.trans hLk
            replace hLm : listed.getD m false = true := (hset m hmi).symm.trans hLm
            exact hfacts.apart k m V V' hk hm hkm hLk hLm hdk hdm
        have keyA : ∀ V fr, s = .any V fr → ∀ u w', Got V fr w u w' → wpAny P .any ops Q (f + (ops.size - n)) (listed.setIfInBounds i true) (a.put o.dst u) w' := fun V fr hsa u w' hgot => by
          subst hsa
          obtain ⟨huw, hVu, hfresh⟩ := hgot
          let vals' : Nat → Value := fun j => if j = i then u else vals j
          have hvi : vals' i = u := by simp [vals']
          have hvj : ∀ j, j ≠ i → vals' j = vals j := fun j hj => by simp [vals', hj]
          have hDv : Dv ds vals' i = u := by simp [Dv, hs, hvi]
          have := hag.step (L' := fun j => (listed.setIfInBounds i true).getD j false) (vals' := vals') hil hol hdist' hseti hset (fun j hLj hj => by
            have hsj : ∀ q, ds[j]? = some (.same q) → vals' q = vals q := fun q hq => hvj q fun e => by
              subst e
              have hjn : j < n := Nat.lt_of_not_le fun hle => by
                rcases Nat.lt_or_ge j ops.size with h | h
                · have := getD_both (inv.tail j hle h)
                  rw [this] at hLj
                  cases hLj
                · have : listed.getD j false = false := by simp [Array.getElem?_eq_none (show listed.size ≤ j by rw [inv.size]; exact h)]
                  rw [this] at hLj
                  cases hLj
              obtain ⟨s', hs', hd'⟩ := hduty vals j ops[j] hjn (Array.getElem?_eq_getElem (by omega))
              rw [hq] at hs'
              obtain rfl := Option.some.inj hs'
              obtain ⟨e, he, hb⟩ := Array.any_eq_true'.1 hd'.2.1
              simp only [Bool.and_eq_true, beq_iff_eq] at hb
              have := inv.closed j ops[j] (Array.getElem?_eq_getElem (by omega)) hLj e he hb.1
              rw [hb.2, hun] at this
              cases this
            unfold Dv
            cases hdj : ds[j]? with
            | none => exact hvj j hj
            | some sl => cases sl with
              | det d => rfl
              | pur d => rfl
              | any V f => exact hvj j hj
              | same q => exact hsj q hdj)
          rw [hDv] at this
          have told' : ∀ k V f, k < n → (listed.setIfInBounds i true).getD k false = true → ds[k]? = some (.any V f) → k ≠ i → V (vals k) w' ∧ (f = true → ∀ b, blk (vals k) = some b → w0.heap.size ≤ b ∧ b < w.heap.size) := fun k V f hk hL hdk hki => by
            rw [hset k hki] at hL
            have h1 := hfacts.told k V f hk hL hdk
            obtain ⟨s', hs', hd'⟩ := hduty vals k ops[k] hk (Array.getElem?_eq_getElem (by omega))
            rw [hdk] at hs'
            obtain rfl := Option.some.inj hs'
            exact ⟨hd'.2.1 _ _ _ h1.1 huw, h1.2⟩
          refine ih _ vals' _ w' inv' this (hup.trans huw) ⟨fun k V f hk hL hdk => ?_, fun k m V1 V2 hk hm hkm hLk hLm hdk hdm b c hb hc => ?_⟩ hcnt
          · by_cases hki : k = i
            · subst hki
              rw [hs] at hdk
              obtain ⟨rfl, rfl⟩ : V = _ ∧ fr = f := by have := Option.some.inj hdk; injection this with h1 h2; exact ⟨h1.symm, h2⟩
              rw [hvi]
              exact ⟨hVu, fun hf b hb => ⟨Nat.le_trans hup.size (hfresh hf b hb).1, (hfresh hf b hb).2⟩⟩
            · rw [hvj k hki]
              have h1 := told' k V f hk hL hdk hki
              exact ⟨h1.1, fun hf b hb => ⟨(h1.2 hf b hb).1, Nat.lt_of_lt_of_le (h1.2 hf b hb).2 huw.size⟩⟩
          · by_cases hki : k = i
            · subst hki
              rw [hs] at hdk
              obtain ⟨_, rfl⟩ : V = _ ∧ fr = true := by have := Option.some.inj hdk; injection this with h1 h2; exact ⟨h1, h2⟩
              rw [hvi] at hb
              rw [hvj m (Ne.symm hkm)] at hc
              have h1 := told' m V2 true hm hLm hdm (Ne.symm hkm)
              have h2 := (h1.2 rfl c hc).2
              have h3 := (hfresh rfl b hb).1
              omega
            · by_cases hmi : m = i
              · subst hmi
                rw [hs] at hdm
                obtain ⟨_, rfl⟩ : V = _ ∧ fr = true := by have := Option.some.inj hdm; injection this with h1 h2; exact ⟨h1, h2⟩
                rw [hvi] at hc
                rw [hvj k hki] at hb
                have h1 := told' k V1 true hk hLk hdk hki
                have h2 := (h1.2 rfl b hb).2
                have h3 := (hfresh rfl c hc).1
                omega
              · rw [hvj k hki] at hb
                rw [hvj m hmi] at hc
                replace hLk : listed.getD k false = true := (hset k hki).symm.trans hLk
                replace hLm : listed.getD m false = true := (hset m hmi).symm.trans hLm
                exact hfacts.apart k m V1 V2 hk hm hkm hLk hLm hdk hdm b c hb hc
        unfold wpOp
        simp only [ho]
        cases s with
        | det d =>
          rcases hd with ⟨hw, hq⟩ | ⟨hw, rfl⟩
          · rw [hwa, if_pos hw]
            refine .inl ?_
            have hq' := hq w hup hlean
            unfold Oper.quietAt at hq'
            rw [← hex] at hq'
            unfold Oper.wp
            generalize (execOp a.eval o).run P w = r at hq'
            cases r with
            | ok nx w' =>
              cases nx <;> simp only [Oper.quietUpon] at hq' <;> simp only [Oper.upon]
              case value u =>
                obtain ⟨rfl, rfl⟩ := hq'
                exact keyD _ (by simp [Dv, hs]) (fun _ _ => nofun) _ (Up.refl _)
              case skip =>
                obtain ⟨rfl, rfl⟩ := hq'
                exact keyD _ (by simp [Dv, hs]) (fun _ _ => nofun) _ (Up.refl _)
              case enter g args =>
                obtain ⟨rfl, hc⟩ := hq'
                refine hc.mono fun e w'' ⟨he, hw''⟩ => ?_
                subst he
                exact keyD _ (by simp [Dv, hs]) (fun _ _ => nofun) _ hw''
            | halt x w' => simp only [Oper.quietUpon] at hq'
          · rw [hwa, if_neg (by rw [hw]; simp)]
            exact keyD _ (by simp [Dv, hs]) (fun _ _ => nofun) _ (Up.refl _)
        | pur d =>
          obtain ⟨hg, hT, hr⟩ := hd
          rw [if_pos (by simp [Region.wanted, hg])]
          refine .inl ?_
          unfold Oper.wp
          rw [hex, hr w (hT w hup)]
          exact keyD _ (by simp [Dv, hs]) (fun _ _ => nofun) _ (Up.refl _)
        | same q =>
          obtain ⟨hw, _, hhas, hq⟩ := hd
          rw [hwa, if_pos hw]
          refine .inl ?_
          have hq' := hq w hup hlean
          rw [getM_madeN hhas] at hq'
          unfold Oper.quietAt at hq'
          rw [← hex] at hq'
          unfold Oper.wp
          generalize (execOp a.eval o).run P w = r at hq'
          cases r with
          | ok nx w' =>
            cases nx <;> simp only [Oper.quietUpon] at hq' <;> simp only [Oper.upon]
            case value u =>
              obtain ⟨rfl, rfl⟩ := hq'
              exact keyD _ (by simp [Dv, hs]) (fun _ _ => nofun) _ (Up.refl _)
            case skip =>
              obtain ⟨rfl, h1⟩ := hq'
              exact keyD _ (by simp [Dv, hs, h1]) (fun _ _ => nofun) _ (Up.refl _)
            case enter g args =>
              obtain ⟨rfl, hc⟩ := hq'
              refine hc.mono fun e w'' ⟨he, hw''⟩ => ?_
              subst he
              exact keyD _ (by simp [Dv, hs]) (fun _ _ => nofun) _ hw''
          | halt x w' => simp only [Oper.quietUpon] at hq'
        | any V fr =>
          obtain ⟨hw, _, hq⟩ := hd
          rw [hwa, if_pos hw]
          refine .inl ?_
          have hq' := hq w hup hlean
          unfold freshAt at hq'
          rw [← hex] at hq'
          unfold Oper.wp
          generalize (execOp a.eval o).run P w = r at hq'
          cases r with
          | ok nx w' =>
            cases nx <;> simp only [freshUpon] at hq' <;> simp only [Oper.upon]
            case value u => exact keyA _ _ rfl _ _ hq'
            case enter g args =>
              obtain ⟨rfl, hc⟩ := hq'
              refine hc.mono fun e w'' ⟨u, he, hg⟩ => ?_
              subst he
              exact keyA _ _ rfl _ _ hg
          | halt x w' => simp only [freshUpon] at hq'

/-- **THE LAW**: n operations that only let the world grow, in whatever order; behind them the others, one after the other. -/
theorem wp_region_up {id : Nat} {Q : Exit → Act → World → Prop} {a : Act} {w : World} {l : List Oper} (n : Nat) (ds : List Slot) (hm : P.follows .mixedOrders = true) (hB : kB l.toArray n = true)
    (h : wpK P l.toArray w.drew (fun _ => False) (fun a' F => ∀ w', Up w.drew w' → Apart2 w.drew w' F → wpList P l.toArray Q (l.drop n) a' w') (l.take n) ds 0 a []) : (Code.region id l.toArray true).wp P Q a w := by
  have hn : n ≤ l.length := by
    simp only [kB, Bool.and_eq_true, decide_eq_true_eq] at hB
    simpa using hB.1.1.1.2
  have htl : (l.take n).length = n := by simp; omega
  have hi := fun vals => wpK_inst (P := P) (ops := l.toArray) (w0 := w.drew) (l.take n) ds vals a (l.take n) ds 0 (by simp) (fun k => by simp) (fun k => by simp) h
  refine wp_region_any hm ?_
  have := kripke (P := P) (ops := l.toArray) (w0 := w.drew) (n := n) (ds := ds) (a0 := a) (Q := Q) hB
    (fun vals k o hk ho => (hi vals).1 k o (Nat.zero_le _) (by simpa [hk] using ho))
    (fun vals w' hu ha => by
      have := (hi vals).2 w' hu (by rw [htl]; exact ha)
      rw [htl] at this
      simpa using this)
    n (Array.replicate l.toArray.size false) (fun _ => undef) a w.drew
    ⟨by simp, fun j oj _ hl => (by rw [getD_replicate_false] at hl; cases hl), fun t _ ht => getD_in (by simpa using ht) (getD_replicate_false _ _)⟩
    ⟨rfl, rfl, fun _ _ => rfl, fun j t _ hl => (by simp only [getD_replicate_false] at hl; cases hl)⟩ (Up.refl _)
    ⟨fun i V f _ hl => (by simp only [getD_replicate_false] at hl; cases hl), fun i j V V' _ _ _ hl => (by simp only [getD_replicate_false] at hl; cases hl)⟩ (cnt_le _)
  rwa [show n + (l.toArray.size - n) = l.toArray.size by simp; omega] at this

/-! ### Operations that may come up late -/
def plainB (o : Oper) : Bool := match o.op with
  | .move _ | .assign _ | .load .. | .extract .. | .fieldAddr .. | .indexAddr .. | .binOp .. | .unOp .. => true
  | _ => false
def headD (m n : Nat) (D : List Nat) : Array Bool := ((List.range m).map fun i => decide (i < n) && !D.contains i).toArray
def subs : List Nat → List (List Nat)
  | [] => [[]]
  | f :: F => subs F ++ (subs F).map (f :: ·)
def tailB (o : Oper) : Bool := match o.op with
  | .store .. => true
  | _ => plainB o
def apartB (ops : Array Oper) (k : Nat) (D : List Nat) : Bool := match ops[k]? with
  | none => false
  | some o => tailB o && D.all fun f => match ops[f]? with
    | none => false
    | some of => o.apart ops of
/-- One of those that wait may come up ahead of the others. -/
def bringB (ops : Array Oper) (i : Nat) : List Nat → Bool
  | [] => false
  | f :: D => decide (f = i) || ((match ops[i]?, ops[f]? with
    | some o, some of => o.apart ops of
    | _, _ => false) && bringB ops i D)
def floatB (ops : Array Oper) : Nat → Nat → List Nat → Array Bool → Bool
  | 0, k, D, listed => (Region.ready .any ops listed).isEmpty && D.isEmpty && decide (ops.size ≤ k)
  | g + 1, k, D, listed => !(Region.ready .any ops listed).isEmpty && (Region.ready .any ops listed).all fun i =>
      (bringB ops i D && floatB ops g k (D.erase i) (listed.setIfInBounds i true)) || (decide (i = k) && apartB ops k D && floatB ops g (k + 1) D (listed.setIfInBounds k true))
def wrapQ (L : Act → World → Prop) : Exit → Act → World → Prop
  | .normal, a, w => L a w
  | _, _, _ => False
def wpListU (P : Program) (ops : Array Oper) (T : World → Prop) (Q : Exit → Act → World → Prop) : List Oper → Act → World → Prop
  | [], a, w => T w ∧ Q .normal a w
  | o :: l, a, w => T w ∧ wpList P ops (wrapQ (wpListU P ops T Q l)) [o] a w
def Fl (P : Program) (ops : Array Oper) (T : World → Prop) (val : Nat → Value) (f : Nat) (a : Act) : Prop :=
  ∃ o, ops[f]? = some o ∧ Region.wanted o (yielded ops a.tmps) = true ∧ ∀ w, T w → (execOp a.eval o).run P w = .ok (.value (val f)) w
def putF1 (ops : Array Oper) (val : Nat → Value) (f : Nat) (a : Act) : Act := match ops[f]? with
  | some o => a.put o.dst (val f)
  | none => a
def putD (ops : Array Oper) (val : Nat → Value) : List Nat → Act → Act
  | [], a => a
  | f :: D, a => putD ops val D (putF1 ops val f a)
def FlL (P : Program) (ops : Array Oper) (T : World → Prop) (val : Nat → Value) : List Nat → Act → Prop
  | [], _ => True
  | f :: D, a => Fl P ops T val f a ∧ FlL P ops T val D (putF1 ops val f a)
def sinkF (ops : Array Oper) (n : Nat) (F : List Nat) : Bool :=
  (List.range n).all fun i => F.contains i || (List.range (n + 1)).any fun j => decide (i < j) && !F.contains j && Region.waitsFor .any ops j i
def isDetS : Slot → Bool
  | .det _ => true
  | _ => false
def detB (ops : Array Oper) (F : List Nat) (bs : List Bool) : Bool := F.all fun f => (bs[f]?).getD false && match ops[f]? with
  | none => true
  | some o => o.after.all fun e => !Region.binds .any e || (bs[e.on]?).getD false
def kF (ops : Array Oper) (n : Nat) (F : List Nat) : Bool :=
  Region.noSelect ops && decide (n ≤ ops.size) && (decide (n = ops.size) || (sinkF ops n F && Region.chainB .any ops n)) && ((subs F).all fun D => floatB ops (D.length + (ops.size - n)) n D (headD ops.size n D)) &&
  ((List.range n).all fun i => match ops[i]? with
    | none => false
    | some o => (o.after.all fun e => !Region.binds .any e || decide (e.on < i)) &&
      (List.range n).all fun j => match (ops[j]?).bind (·.dst) with
        | none => true
        | some d => (decide (j = i) || o.dst != some d) && (!(o.looksAt ops).contains d || (decide (j < i) && o.after.any fun e => Region.binds .any e && e.on == j))) &&
  (decide (F.Pairwise (· < ·)) && F.all fun f => decide (f < n) && match ops[f]? with
    | none => false
    | some o => o.guard.isNone && plainB o)
def isPurS : Slot → Bool
  | .pur _ => true
  | _ => false
theorem wpK_nil {K : Act → List Made → Prop} {i : Nat} {a : Act} {F : List Made} (h : K a F) : wpK P ops w0 TT K [] [] i a F := h
/-- An operation without a guard, its value known. -/
theorem wpK_ops {K : Act → List Made → Prop} {o : Oper} {l : List Oper} {d : Value} {ds : List Slot} {i : Nat} {a : Act} {F : List Made} (hg : o.guard = none)
    (h : ∀ w, Up w0 w → o.quietAt P a (Up w) w d) (hk : wpK P ops w0 TT K l ds (i + 1) (a.put o.dst d) F) : wpK P ops w0 TT K (o :: l) (.det d :: ds) i a F :=
  ⟨.inl ⟨by simp [Region.wanted, hg], fun w hu _ => h w hu⟩, hk⟩
/-- A copy of what an operation of the region has made. -/
theorem wpK_same {K : Act → List Made → Prop} {o : Oper} {l : List Oper} {ds : List Slot} {i j : Nat} {a : Act} {F : List Made} (hg : o.guard = none) (hj : (o.after.any fun e => Region.binds .any e && e.on == j) = true) (hF : hasM F j = true)
    (x : Value) (hx : getM F j = x) (h : ∀ w, Up w0 w → o.quietAt P a (Up w) w x) (hk : wpK P ops w0 TT K l ds (i + 1) (a.put o.dst x) F) : wpK P ops w0 TT K (o :: l) (.same j :: ds) i a F := by
  subst hx
  exact ⟨⟨by simp [Region.wanted, hg], hj, hF, fun w hu _ => h w hu⟩, hk⟩
theorem wpK_any {K : Act → List Made → Prop} {o : Oper} {l : List Oper} {V : Value → World → Prop} {f : Bool} {ds : List Slot} {i : Nat} {a : Act} {F : List Made} (hg : o.guard = none) (hs : Stab V)
    (h : ∀ w, Up w0 w → LeanOn o w F → freshAt P o a w V f) (hk : ∀ v, wpK P ops w0 TT K l ds (i + 1) (a.put o.dst v) (⟨i, v, V, f⟩ :: F)) : wpK P ops w0 TT K (o :: l) (.any V f :: ds) i a F :=
  ⟨⟨by simp [Region.wanted, hg], hs, h⟩, hk⟩
end

/-! ### Steps of a walk -/
section
variable {P : Program} {ops : Array Oper} {rest : List Oper} {o : Oper} {a : Act} {w : World} {Q : Exit → Act → World → Prop}

/-- A fact that the walk's simp does not look into. -/
structure Aside0 (p : Prop) : Prop where mk :: (out : p)

/-- One block is written, all else stands. -/
structure Sto (b : Nat) (w w' : World) : Prop where
  os : w'.os = w.os
  tape : w'.tape = w.tape
  output : w'.output = w.output
  size : w'.heap.size = w.heap.size
  block : ∀ k, k ≠ b → w'.heap[k]? = w.heap[k]?
theorem Sto.refl (b : Nat) (w : World) : Sto b w w := ⟨rfl, rfl, rfl, rfl, fun _ _ => rfl⟩
theorem Sto.setCell {b : Nat} {w w' : World} (h : Sto b w w') (o : Nat) (v : Value) : Sto b w (w'.setCell ⟨b, o, none⟩ v) :=
  ⟨h.os, h.tape, h.output, (World.size_setCell ..).trans h.size, fun k hk => (Below.heap_setCell w' ⟨b, o, none⟩ v k hk).trans (h.block k hk)⟩
theorem Up.sto {a b c : World} {k : Nat} (h : Up a b) (hk : a.heap.size ≤ k) (s : Sto k b c) : Up a c :=
  ⟨h.out.trans ⟨s.os, s.tape, s.output, by rw [s.size]; exact Nat.le_refl _, fun i hi => s.block i (by omega)⟩⟩

/-- Block b of the world holds these cells. -/
structure Blk (w : World) (b : Nat) (cs : List Value) (T : TypeId) : Prop where mk :: (out : w.heap[b]? = some (.cells cs.toArray T (0, 0)))
theorem Blk.lt {w : World} {b : Nat} {cs : List Value} {T : TypeId} (h : Blk w b cs T) : b < w.heap.size := (Array.getElem?_eq_some_iff.1 h.out).1
theorem Blk.up {w w' : World} {b : Nat} {cs : List Value} {T : TypeId} (h : Blk w b cs T) (u : Up w w') : Blk w' b cs T := ⟨(u.block h.lt).trans h.out⟩
theorem Blk.sto {w w' : World} {b k : Nat} {cs : List Value} {T : TypeId} (h : Blk w b cs T) (s : Sto k w w') (hk : b ≠ k) : Blk w' b cs T := ⟨(s.block b hk).trans h.out⟩
theorem Blk.cell {w : World} {b : Nat} {cs : List Value} {T : TypeId} (h : Blk w b cs T) {o : Nat} {v : Value} (hc : cs[o]? = some v) : w.cell? ⟨b, o, none⟩ = some v := by
  simp [World.cell?, h.out, hc]
theorem Blk.free {w : World} {b : Nat} {cs : List Value} {T : TypeId} (h : Blk w b cs T) (o : Nat) : w.frozen? ⟨b, o, none⟩ = false := by
  simp [World.frozen?, h.out]
theorem Blk.setCell {w : World} {b : Nat} {cs : List Value} {T : TypeId} (h : Blk w b cs T) (o : Nat) (v : Value) : Blk (w.setCell ⟨b, o, none⟩ v) b (cs.set o v) T :=
  ⟨by simp [World.setCell, Array.getElem?_modify, h.out]⟩
theorem Blk.alloc (w : World) (cs : List Value) (T : TypeId) : Blk (w.alloc (.cells cs.toArray T)) w.heap.size cs T := ⟨by show (w.heap.push _)[w.heap.size]? = _; simp⟩

theorem wp_hide {c : Code} (h : ∀ Q' : Exit → Act → World → Prop, (∀ e a w, Q e a w → Q' e a w) → c.wp P Q' a w) : c.wp P Q a w := h Q fun _ _ _ h => h

/-- A new block (box, alloc, a literal of fixed length): its number is a letter. -/
theorem step_new {cs : List Value} {T : TypeId} {f : Nat → Value} (hg : o.guard = none) (hrun : (execOp a.eval o).run P w = .ok (.value (f w.heap.size)) (w.alloc (.cells cs.toArray T)))
    (k : ∀ b w', Up w w' → w.heap.size ≤ b → Blk w' b cs T → wpList P ops Q rest (a.put o.dst (f b)) w') : wpList P ops Q (o :: rest) a w := by
  refine wpList_plain hg fun K hK => ?_
  unfold Oper.wp
  rw [hrun]
  exact hK _ _ (k _ _ ((Up.refl w).alloc _) (Nat.le_refl _) (Blk.alloc w cs T))

theorem step_store {b : Nat} {cs' : List Value} {T : TypeId} {W' : World} (hg : o.guard = none) (hd : o.dst = none) (hrun : (execOp a.eval o).run P w = .ok .skip W') (hs : Sto b w W') (hb : Blk W' b cs' T)
    (k : ∀ w', Sto b w w' → Blk w' b cs' T → wpList P ops Q rest a w') : wpList P ops Q (o :: rest) a w := by
  refine wpList_plain hg fun K hK => ?_
  unfold Oper.wp
  rw [hrun]
  refine hK _ _ ?_
  rw [hd]
  exact k _ hs hb

theorem step_no (hg : Region.wanted o (yielded ops a.tmps) = false) (k : wpList P ops Q rest (a.put o.dst undef) w) : wpList P ops Q (o :: rest) a w := by
  refine wpList_step fun K hK => ?_
  rw [if_neg (by rw [hg]; exact Bool.false_ne_true)]
  exact hK _ _ k
/-- A call, by the callee's contract. -/
theorem step_call {f : FuncId} {args : Array Value} {R : Ending → World → Prop} (hg : Region.wanted o (yielded ops a.tmps) = true) (hrun : (execOp a.eval o).run P w = .ok (.enter f args) w) (h : Calls P f args w R)
    (k : ∀ e w', R e w' → ∃ v, e = .returned v ∧ wpList P ops Q rest (a.put o.dst v) w') : wpList P ops Q (o :: rest) a w := by
  refine wpList_step fun K hK => ?_
  rw [if_pos hg]
  unfold Oper.wp
  rw [hrun]
  refine h.mono fun e w' hR => ?_
  obtain ⟨v, rfl, hk⟩ := k e w' hR
  exact hK _ _ hk
theorem wanted_none {o : Oper} {y : Nat → Option Bool} (h : o.guard = none) : Region.wanted o y = true := by simp [Region.wanted, h]
theorem nm1 {α : Type} {l : List α} {i : Nat} {a : α} : l.toArray.setIfInBounds i a = (l.set i a).toArray := List.setIfInBounds_toArray ..
theorem nm2 {α : Type} {x y : α} {l : List α} : (x :: l).set 0 y = y :: l := List.set_cons_zero ..
theorem nm3 {α : Type} {x y : α} {l : List α} {n : Nat} : (x :: l).set (n + 1) y = x :: l.set n y := List.set_cons_succ ..
theorem i64_w (n : Int) : IntKind.i64.wrap n = wrap64 n := by unfold wrap64; exact IntKind.wrap_i64 n
/-- A pointer to a block of its own that holds these cells. -/
def PtrTo (cs : List Value) (T : TypeId) : Value → World → Prop := fun v w => ∃ b, v = .pointer (some ⟨b, 0, none⟩) ∧ Blk w b cs T
def SlTo (n : Nat) (cs : List Value) (T : TypeId) (base : Nat) : Value → World → Prop := fun v w => ∃ b, v = .slice (some ⟨b, 0, none⟩) n n ∧ Blk w b cs T ∧ base ≤ b
theorem stab_sl (n : Nat) (cs : List Value) (T : TypeId) (base : Nat) : Stab (SlTo n cs T base) := fun _ _ _ ⟨b, e, h, hb⟩ hu => ⟨b, e, h.up hu, hb⟩
theorem fresh_sl {n : Nat} {cs : List Value} {T : TypeId} {base : Nat} (hrun : (execOp a.eval o).run P w = .ok (.value (.slice (some ⟨w.heap.size, 0, none⟩) n n)) (w.alloc (.cells cs.toArray T))) (hb : base ≤ w.heap.size) : freshAt P o a w (SlTo n cs T base) false := by
  unfold freshAt
  rw [hrun]
  exact ⟨(Up.refl w).alloc _, ⟨_, rfl, Blk.alloc w cs T, hb⟩, nofun⟩
end

/-! ### Rows: slices of elements of a fixed number of cells -/
/-- How an element lies in cells. -/
structure Enc (α : Type) where
  enc : α → List Value
  sz : Nat
  pos : 0 < sz
  len : ∀ x, (enc x).length = sz
  one : ∀ x, ∀ u ∈ enc x, u.oneCell' = true
def eI : Enc Int := ⟨fun x => [.int .i64 x], 1, by omega, fun _ => rfl, by simp [Value.oneCell']⟩
def eU8 : Enc Int := ⟨fun x => [.int .u8 x], 1, by omega, fun _ => rfl, by simp [Value.oneCell']⟩
def eB : Enc Bool := ⟨fun x => [.bool x], 1, by omega, fun _ => rfl, by simp [Value.oneCell']⟩
def e2 : Enc (Int × Int) := ⟨fun x => [.int .i64 x.1, .int .i64 x.2], 2, by omega, fun _ => rfl, by simp [Value.oneCell']⟩
def e3 : Enc (Int × Int × Int) := ⟨fun x => [.int .i64 x.1, .int .i64 x.2.1, .int .i64 x.2.2], 3, by omega, fun _ => rfl, by simp [Value.oneCell']⟩
def e4 : Enc (Int × Int × Int × Int) := ⟨fun x => [.int .i64 x.1, .int .i64 x.2.1, .int .i64 x.2.2.1, .int .i64 x.2.2.2], 4, by omega, fun _ => rfl, by simp [Value.oneCell']⟩
def e6 : Enc (Int × Int × Int × Int × Int × Int) := ⟨fun x => [.int .i64 x.1, .int .i64 x.2.1, .int .i64 x.2.2.1, .int .i64 x.2.2.2.1, .int .i64 x.2.2.2.2.1, .int .i64 x.2.2.2.2.2], 6, by omega, fun _ => rfl, by simp [Value.oneCell']⟩
def e8 : Enc (Int × Int × Int × Int × Int × Int × Int × Int) := ⟨fun x => [.int .i64 x.1, .int .i64 x.2.1, .int .i64 x.2.2.1, .int .i64 x.2.2.2.1, .int .i64 x.2.2.2.2.1, .int .i64 x.2.2.2.2.2.1, .int .i64 x.2.2.2.2.2.2.1, .int .i64 x.2.2.2.2.2.2.2], 8, by omega, fun _ => rfl, by simp [Value.oneCell']⟩

section
variable {α : Type} {E : Enc α} {w w' : World} {A : Option Addr} {xs : List α} {T : TypeId} {base : Nat} {v : Value}
def Enc.flat (E : Enc α) (xs : List α) : List Value := xs.flatMap E.enc
theorem Enc.flat_len (E : Enc α) (xs : List α) : (E.flat xs).length = xs.length * E.sz := by
  unfold Enc.flat
  induction xs with
  | nil => simp
  | cons x xs ih => rw [List.flatMap_cons, List.length_append, ih, E.len, List.length_cons, Nat.add_mul]; omega
theorem Enc.flat_append (E : Enc α) (xs ys : List α) : E.flat (xs ++ ys) = E.flat xs ++ E.flat ys := by simp [Enc.flat]
theorem Enc.flat_one (E : Enc α) (xs : List α) : ∀ u ∈ E.flat xs, u.oneCell' = true := fun u hu => by
  obtain ⟨x, _, hx⟩ := List.mem_flatMap.1 hu
  exact E.one x u hx
theorem Enc.flat_get (E : Enc α) : ∀ (xs : List α) (i : Nat) (x : α), xs[i]? = some x → ∀ j u, (E.enc x)[j]? = some u → (E.flat xs)[i * E.sz + j]? = some u
  | [], i, x, h => by simp at h
  | y :: ys, 0, x, h => fun j u hu => by
    obtain rfl : y = x := by simpa using h
    have hj := (List.getElem?_eq_some_iff.1 hu).1
    simp only [Enc.flat, List.flatMap_cons, Nat.zero_mul, Nat.zero_add]
    rw [List.getElem?_append_left hj]
    exact hu
  | y :: ys, i + 1, x, h => fun j u hu => by
    have := Enc.flat_get E ys i x (by simpa using h) j u hu
    simp only [Enc.flat, List.flatMap_cons] at this ⊢
    rw [List.getElem?_append_right (by rw [E.len, Nat.add_mul]; omega), E.len]
    rw [show (i + 1) * E.sz + j - E.sz = i * E.sz + j by rw [Nat.add_mul]; omega]
    exact this

/-- A row that is read. -/
structure Rd (E : Enc α) (w : World) (A : Option Addr) (xs : List α) : Prop where
  len : xs.length ≤ 9223372036854775807
  cells : 0 < xs.length → ∃ ad, A = some ad ∧ ad.block < w.heap.size ∧ ∀ j u, (E.flat xs)[j]? = some u → w.cell? (ad.add j) = some u
theorem add_block (a : Addr) (j : Nat) : (a.add j).block = a.block := by unfold Addr.add; split <;> rfl
theorem Rd.up (h : Rd E w A xs) (u : Up w w') : Rd E w' A xs := ⟨h.len, fun hp => by
  obtain ⟨ad, e, hb, hc⟩ := h.cells hp
  exact ⟨ad, e, Nat.lt_of_lt_of_le hb u.size, fun j v hv => (u.cell (by rw [add_block]; exact hb)).trans (hc j v hv)⟩⟩
theorem Rd.nil : Rd E w A [] := ⟨by simp, fun h => by simp at h⟩
/-- What a slice of the call's own leads to: so many elements at a block's beginning; the block may be longer than the slice's room. -/
def rowAt (w : World) (base : Nat) (T : TypeId) (sz : Nat) (v : Value) (n : Nat) (xs : List Value) : Prop :=
  xs.length = n * sz ∧ ((v = .slice none 0 0 ∧ n = 0) ∨ ∃ g room cs, v = .slice (some ⟨g, 0, none⟩) n room ∧ base ≤ g ∧ w.heap[g]? = some (.cells cs T (0, 0)) ∧ n ≤ room ∧ room ≤ maxLen ∧ room * sz ≤ cs.size ∧ cs.toList.take (n * sz) = xs)
theorem rowAt.nil (w : World) (base : Nat) (T : TypeId) (sz : Nat) : rowAt w base T sz (.slice none 0 0) 0 [] := ⟨by simp, .inl ⟨rfl, rfl⟩⟩
theorem rowAt.cells {w : World} {base sz n : Nat} {T : TypeId} {v : Value} {xs : List Value} (h : rowAt w base T sz v n xs) {g : Nat} (hg : v.ownBlock = some g) : ∀ j u, xs[j]? = some u → w.cell? ((⟨g, 0, none⟩ : Addr).add j) = some u := fun j u hu => by
  rcases h.2 with ⟨rfl, _⟩ | ⟨b, room, cs, rfl, _, hh, _, _, _, ht⟩
  · cases hg
  · obtain rfl : b = g := by injection hg
    have e : (⟨b, 0, none⟩ : Addr).add j = ⟨b, j, none⟩ := by unfold Addr.add; split <;> simp_all
    rw [e, cell_of_row w b j cs T (0, 0) hh]
    rw [← ht, List.getElem?_take] at hu
    split at hu
    · simpa using hu
    · cases hu
theorem rowAt_made {w : World} {base sz n m room : Nat} {T : TypeId} {z : Array Value} {xs news : List Value} (hb : base ≤ w.heap.size) (hx : xs.length = n * sz) (hn : news.length = m * sz) (hz : z.size = sz) (h1 : n + m ≤ room) (h2 : room ≤ maxLen) :
    rowAt (w.drew.alloc (.cells (xs.toArray ++ news.toArray ++ Builtin.zeroCells z (room - (n + m))) T)) base T sz (.slice (some ⟨w.heap.size, 0, none⟩) (n + m) room) (n + m) (xs ++ news) := by
  have hl : (xs ++ news).length = (n + m) * sz := by rw [List.length_append, hx, hn, Nat.add_mul]
  refine ⟨hl, .inr ⟨w.heap.size, room, _, rfl, hb, heap_alloc_new w.drew _, h1, h2, ?_, ?_⟩⟩
  · have e : (xs.toArray ++ news.toArray ++ Builtin.zeroCells z (room - (n + m))).size = (n + m) * sz + (room - (n + m)) * sz := by
      rw [Array.size_append, Array.size_append, size_zeroCells, hz, ← hl, List.length_append]
      simp
    rw [e, ← Nat.add_mul]
    exact Nat.mul_le_mul_right _ (by omega)
  · rw [Array.toList_append, Array.toList_append, ← hl]
    exact List.take_left
theorem run_append_row {P : Program} (w : World) (base : Nat) (t ty T : TypeId) (i : TypeInfo) (z : Value) (ht : P.underlying t = some (.slice T)) (hi : P.info? T = some i) (hz : i.zero = some z) (hzs : z.cells.size = i.size)
    {v : Value} {n : Nat} {xs : List Value} (hv : rowAt w base T i.size v n xs) {a : Addr} {m c : Nat} {news : List Value} (hl : news.length = m * i.size) (hnews : ∀ j u, news[j]? = some u → w.cell? (a.add j) = some u) (h1 : ∀ u ∈ news, u.oneCell' = true)
    (hm : 0 < m) (h63 : n + m ≤ maxLen) (hbytes : (n + m) * i.bytes ≤ 140737488355328) (hbase : base ≤ w.heap.size) :
    ∃ v' w', (Builtin.append_ #[t, t] ty #[v, .slice (some a) m c]).run P w = .ok v' w' ∧ rowAt w' base T i.size v' (n + m) (xs ++ news) ∧ w.grownBy w' v.ownBlock ∧ (v'.ownBlock = v.ownBlock ∨ v'.ownBlock = some w.heap.size) := by
  have h63' : ((n + m : Nat) : Int) ≤ 9223372036854775807 := by simp only [maxLen] at h63; omega
  have made : ∀ (old : Nat) (cs : Array Value), w.grownBy (w.drew.alloc (.cells cs T)) v.ownBlock := fun old cs => ⟨rfl, rfl, rfl, by simp, fun k hk _ => heap_alloc_old w.drew _ hk⟩
  have hx := hv.1
  rcases hv.2 with ⟨rfl, rfl⟩ | ⟨g, room, cs, rfl, hg, hh, hnr, hr, hs, htk⟩
  · obtain rfl : xs = [] := List.eq_nil_of_length_eq_zero (by rw [hx, Nat.zero_mul])
    have hrun := run_append_nil (P := P) w t ty T i z ht hi hz a m c news hl hnews hm (by omega) (by rw [Nat.zero_add] at hbytes; omega)
    have hrow := rowAt_made (T := T) (n := 0) (m := m) (room := grownCap w m 0 T) (z := z.cells) (xs := []) (news := news) hbase (by simp) hl hzs (by rw [Nat.zero_add]; exact grownCap_ge w m 0 T) (grownCap_le_maxLen w m 0 T (by omega))
    simp only [Nat.zero_add, List.nil_append, Array.empty_append] at hrow ⊢
    exact ⟨_, _, hrun, hrow, made 0 _, .inr rfl⟩
  · by_cases hroom : n + m ≤ room
    · have hfit : n * i.size + news.length ≤ cs.size := by
        rw [hl, ← Nat.add_mul]
        exact Nat.le_trans (Nat.mul_le_mul_right _ hroom) hs
      have hrun := run_append_room (P := P) w t ty T i ht hi g n room cs hh a m c news hl hnews h1 hroom hfit
      have hlen : (xs ++ news).length = (n + m) * i.size := by rw [List.length_append, hx, hl, Nat.add_mul]
      refine ⟨_, _, hrun, ⟨hlen, .inr ⟨g, room, _, rfl, hg, setRow_heap w g cs _ T _ hh, hroom, hr, ?_, ?_⟩⟩, ⟨rfl, rfl, rfl, by simp, fun k _ hk => setRow_other w g k _ (fun e => hk (by simp [Value.ownBlock, e]))⟩, .inl rfl⟩
      · have e : (cs.toList.take (n * i.size) ++ news ++ cs.toList.drop (n * i.size + news.length)).toArray.size = cs.size := by
          rw [List.size_toArray, List.length_append, List.length_append, List.length_take, List.length_drop, Array.length_toList]
          omega
        rw [e]
        exact hs
      · rw [List.toList_toArray, htk, ← hlen]
        exact List.take_left
    · have hrun := run_append_grow (P := P) w t ty T i z ht hi hz ⟨g, 0, none⟩ n room xs hx (fun j u hu => hv.cells (g := g) rfl j u hu) a m c news hl hnews (by omega) h63' (growslice_fits (by omega) hbytes)
      exact ⟨_, _, hrun, rowAt_made hbase hx hl hzs (grownCap_ge w (n + m) room T) (grownCap_le_maxLen w (n + m) room T h63), made room _, .inr rfl⟩
/-- A row of the call's own. -/
structure Own (E : Enc α) (T : TypeId) (w : World) (base : Nat) (v : Value) (xs : List α) : Prop where mk :: (out : rowAt w base T E.sz v xs.length (E.flat xs))
theorem Own.nil : Own E T w base (.slice none 0 0) [] := ⟨rowAt.nil w base T E.sz⟩
theorem Own.move (h : Own E T w base v xs) (hm : ∀ k, blk v = some k → w'.heap[k]? = w.heap[k]?) : Own E T w' base v xs := by
  obtain ⟨h1, h2⟩ := h.out
  refine ⟨⟨h1, ?_⟩⟩
  rcases h2 with h2 | ⟨g, cap, cur, rfl, hg, hh, r⟩
  · exact .inl h2
  · exact .inr ⟨g, cap, cur, rfl, hg, (hm g rfl).trans hh, r⟩
theorem Own.lt (h : Own E T w base v xs) : ∀ k, blk v = some k → base ≤ k ∧ k < w.heap.size := fun k hk => by
  rcases h.out.2 with ⟨rfl, _⟩ | ⟨g, cap, cur, rfl, hg, hh, r⟩
  · simp [blk] at hk
  · obtain rfl : g = k := by simpa [blk] using hk
    exact ⟨hg, (Array.getElem?_eq_some_iff.1 hh).1⟩
theorem Own.up (h : Own E T w base v xs) (u : Up w w') : Own E T w' base v xs := h.move fun k hk => u.block (h.lt k hk).2
theorem Own.sto {b : Nat} (h : Own E T w base v xs) (s : Sto b w w') (hne : ∀ k, blk v = some k → k ≠ b) : Own E T w' base v xs := h.move fun k hk => s.block k (hne k hk)
theorem Own.lower {base' : Nat} (h : Own E T w base v xs) (hb : base' ≤ base) : Own E T w base' v xs := by
  obtain ⟨h1, h2⟩ := h.out
  refine ⟨⟨h1, ?_⟩⟩
  rcases h2 with h2 | ⟨g, cap, cur, rfl, hg, r⟩
  · exact .inl h2
  · exact .inr ⟨g, cap, cur, rfl, Nat.le_trans hb hg, r⟩
theorem own_len (h : Own E T w base v xs) : xs.length ≤ 9223372036854775807 := by
  rcases h.out.2 with ⟨_, h0⟩ | ⟨g, cap, cur, _, _, _, h1, h2, _⟩
  · omega
  · simp only [maxLen] at h2; omega
theorem Own.shape (h : Own E T w base v xs) : ∃ A c, v = .slice A xs.length c := by
  rcases h.out.2 with ⟨rfl, h0⟩ | ⟨g, cap, cur, rfl, _⟩
  · exact ⟨none, 0, by rw [h0]⟩
  · exact ⟨_, cap, rfl⟩
theorem Own.rd {c : Nat} (h : Own E T w base (.slice A xs.length c) xs) : Rd E w A xs := ⟨own_len h, fun hp => by
  rcases h.out.2 with ⟨_, h0⟩ | ⟨g, cap, cur, he, _, hh, _⟩
  · omega
  · injection he with hA _ _
    subst hA
    exact ⟨_, rfl, (Array.getElem?_eq_some_iff.1 hh).1, fun j u hu => h.out.cells (g := g) rfl j u hu⟩⟩
theorem Own.cap {c : Nat} (h : Own E T w base (.slice A xs.length c) xs) : xs.length ≤ c := by
  rcases h.out.2 with ⟨_, h0⟩ | ⟨g, cap, cur, he, _, _, hc, _⟩
  · omega
  · injection he with _ _ hc'
    omega
/-- A literal's block is a row. -/
theorem Own.of_blk {b n : Nat} {cs : List Value} (h : Blk w b cs T) (hb : base ≤ b) (hn : xs.length = n) (hm : n ≤ 9223372036854775807) (hc : cs = E.flat xs) : Own E T w base (.slice (some ⟨b, 0, none⟩) n n) xs := by
  subst hn hc
  refine ⟨⟨E.flat_len xs, .inr ⟨b, xs.length, (E.flat xs).toArray, rfl, hb, h.out, Nat.le_refl _, by simpa [maxLen] using hm, Nat.le_of_eq (by simpa using (E.flat_len xs).symm), ?_⟩⟩⟩
  rw [← E.flat_len xs]
  simp
theorem Rd.of_blk {b o : Nat} {cs : List Value} (h : Blk w b cs T) (hm : xs.length ≤ 9223372036854775807) (hc : ∀ j u, (E.flat xs)[j]? = some u → cs[o + j]? = some u) : Rd E w (some ⟨b, o, none⟩) xs :=
  ⟨hm, fun _ => ⟨_, rfl, h.lt, fun j u hu => by
    have : (⟨b, o, none⟩ : Addr).add j = ⟨b, o + j, none⟩ := by unfold Addr.add; split <;> simp_all
    rw [this]
    exact h.cell (hc j u hu)⟩⟩

/-- The world has grown, and the row v may have been written. -/
structure Grow (v : Value) (w w' : World) : Prop where
  os : w'.os = w.os
  tape : w'.tape = w.tape
  output : w'.output = w.output
  size : w.heap.size ≤ w'.heap.size
  block : ∀ k, k < w.heap.size → blk v ≠ some k → w'.heap[k]? = w.heap[k]?
theorem Up.grow {a : World} (h : Up a w) (g : Grow v w w') (hv : ∀ k, blk v = some k → a.heap.size ≤ k) : Up a w' :=
  ⟨h.out.trans ⟨g.os, g.tape, g.output, g.size, fun k hk => g.block k (Nat.lt_of_lt_of_le hk h.size) (fun e => by have := hv k e; omega)⟩⟩
theorem Blk.grow {b : Nat} {cs : List Value} {T : TypeId} (h : Blk w b cs T) (g : Grow v w w') (hne : ∀ k, blk v = some k → k ≠ b) : Blk w' b cs T :=
  ⟨(g.block b h.lt (fun e => hne b e rfl)).trans h.out⟩
theorem Own.grow {β : Type} {E' : Enc β} {T' : TypeId} {base' : Nat} {u : Value} {ys : List β} (h : Own E' T' w base' u ys) (g : Grow v w w') (hne : ∀ k l, blk v = some k → blk u = some l → k ≠ l) : Own E' T' w' base' u ys :=
  h.move fun k hk => g.block k (h.lt k hk).2 (fun e => hne k k e hk rfl)
theorem blk_own (A : Option Addr) (n c : Nat) : blk (.slice A n c) = (Value.slice A n c).ownBlock := by cases A <;> rfl
end
section
variable {P : Program} {ops : Array Oper} {rest : List Oper} {o : Oper} {a : Act} {w : World} {Q : Exit → Act → World → Prop} {α : Type} {E : Enc α}

/-- append of a row onto a row of the call's own. -/
theorem step_append (E : Enc α) {t T : TypeId} {z : Value} {bytes base : Nat} {A B : Option Addr} {c m d : Nat} {xs ys : List α} (hg : Region.wanted o (yielded ops a.tmps) = true) (s x : Operand)
    (ho : o.op = .call { callee := .builtin .append, args := #[s, x], argTypes := #[t, t] }) (ht : P.underlying t = some (.slice T))
    (hinfo : (P.info? T).map (fun i => (i.zero, i.size, i.bytes)) = some (some z, E.sz, bytes)) (hz : z.cells.size = E.sz) (hb0 : 0 < bytes)
    (hs : a.eval s = .slice A xs.length c) (hx : a.eval x = .slice B m d) (hm : m = ys.length) (HO : Own E T w base (.slice A xs.length c) xs) (HR : Rd E w B ys)
    (hbase : base ≤ w.heap.size) (hl : (xs.length + ys.length) * bytes ≤ 140737488355328)
    (k : ∀ A' c' w', Own E T w' base (.slice A' (xs ++ ys).length c') (xs ++ ys) → Grow (.slice A xs.length c) w w' → (blk (.slice A' (xs ++ ys).length c') = blk (.slice A xs.length c) ∨ ∀ k, blk (.slice A' (xs ++ ys).length c') = some k → w.heap.size ≤ k) →
      wpList P ops Q rest (a.put o.dst (.slice A' (xs ++ ys).length c')) w') : wpList P ops Q (o :: rest) a w := by
  obtain ⟨i0, hi, hzz⟩ := Option.map_eq_some_iff.1 hinfo
  simp only [Prod.mk.injEq] at hzz
  obtain ⟨hz0, hz1, hz2⟩ := hzz
  have hlen : xs.length + ys.length ≤ 140737488355328 := Nat.le_trans (Nat.le_mul_of_pos_right _ hb0) hl
  subst hm
  refine wpList_step fun K hK => ?_
  rw [if_pos hg]
  have key : ∃ v' w', (Builtin.append_ #[t, t] o.type #[.slice A xs.length c, .slice B ys.length d]).run P w = .ok v' w' ∧ rowAt w' base T E.sz v' (xs.length + ys.length) (E.flat xs ++ E.flat ys) ∧
      w.grownBy w' (Value.slice A xs.length c).ownBlock ∧ (v'.ownBlock = (Value.slice A xs.length c).ownBlock ∨ v'.ownBlock = some w.heap.size) := by
    rcases Nat.eq_zero_or_pos ys.length with h0 | hp
    · have hy : ys = [] := List.eq_nil_of_length_eq_zero h0
      subst hy
      refine ⟨.slice A xs.length c, w, ?_, by simpa [Enc.flat] using HO.out, ⟨rfl, rfl, rfl, Nat.le_refl _, fun _ _ _ => rfl⟩, .inl rfl⟩
      have hcap := HO.cap
      rcases HO.out.2 with ⟨he, hxz⟩ | ⟨g, cap, cur, he, _⟩
      · injection he with h1 h2 h3
        subst h1 h3
        cases B <;> simp [Builtin.append_, run_underlying ht, sizeOf, typeInfo, hi, Builtin.lenOf, Builtin.firstCells, loadCells, loadCellsFrom, hxz]
      · injection he with h1 h2 h3
        subst h1 h3
        cases B <;> simp [Builtin.append_, run_underlying ht, sizeOf, typeInfo, hi, Builtin.lenOf, Builtin.firstCells, hcap, loadCells, loadCellsFrom, storeCells]
    · obtain ⟨ad, rfl, _, hc⟩ := HR.cells hp
      have HO1 := HO.out
      rw [← hz1] at HO1 ⊢
      exact run_append_row (P := P) w base t o.type T i0 z ht hi hz0 (hz.trans hz1.symm) HO1 (by rw [E.flat_len, hz1]) hc (E.flat_one ys) hp (by simp only [maxLen]; omega) (by rw [hz2]; exact hl) hbase
  obtain ⟨v', w', hr, hown, hgr, hat⟩ := key
  have HO' : Own E T w' base v' (xs ++ ys) := ⟨by rw [List.length_append, E.flat_append]; exact hown⟩
  obtain ⟨A', c', rfl⟩ := HO'.shape
  unfold Oper.wp execOp
  simp only [ho, resolve, invoke, builtin, Sem.run_bind, Sem.run_pure, Result.andThen_ok, List.map_toArray, List.map_cons, List.map_nil, hs, hx, hr]
  refine hK _ _ (k A' c' w' HO' ⟨hgr.os, hgr.tape, hgr.output, hgr.size, fun j hj hne => hgr.block j hj (fun e => hne (by rw [blk_own]; exact e.symm))⟩ ?_)
  rw [blk_own, blk_own]
  rcases hat with hat | hat
  · exact .inl hat
  · exact .inr fun j hj => by rw [hat] at hj; injection hj with hj; omega

/-- make([]T, n). -/
theorem make_run (E : Enc α) {t T : TypeId} {z : Value} {bytes : Nat} {n : Int} {z0 : α} (x y : Operand) (ho : o.op = .makeSlice t x y) (hx : a.eval x = .int .i64 n) (hy : a.eval y = .int .i64 n)
    (ht : P.underlying t = some (.slice T)) (hinfo : (P.info? T).map (fun i => (i.zero, i.size, i.bytes)) = some (some z, E.sz, bytes)) (hz : E.enc z0 = z.cells.toList) (hb0 : 0 < bytes)
    (h0 : 0 ≤ n) (hl : n.toNat * bytes ≤ 281474976710656) :
    (execOp a.eval o).run P w = .ok (.value (.slice (some ⟨w.heap.size, 0, none⟩) n.toNat n.toNat)) (w.alloc (.cells (E.flat (List.replicate n.toNat z0)).toArray T)) := by
  obtain ⟨m, rfl⟩ := Int.eq_ofNat_of_zero_le h0
  simp only [Int.toNat_natCast] at hl ⊢
  obtain ⟨i0, hi, hzz⟩ := Option.map_eq_some_iff.1 hinfo
  simp only [Prod.mk.injEq] at hzz
  obtain ⟨hz0, hz1, hz2⟩ := hzz
  have hm : m ≤ 281474976710656 := Nat.le_trans (Nat.le_mul_of_pos_right _ hb0) hl
  have hr := run_make (P := P) w t T i0 z ht hi hz0 .i64 .i64 (m : Int) (m : Int) (by omega) (by omega)
    (by
      have h3 : ((i0.bytes * m : Nat) : Int) ≤ 281474976710656 := by rw [hz2, Nat.mul_comm]; omega
      rwa [Int.natCast_mul] at h3) (by omega)
  simp only [Int.toNat_natCast] at hr
  have hzs : z.cells.size = E.sz := by rw [← Array.length_toList, ← hz, E.len]
  have hcs : madeCells z.cells (m * i0.size) = (E.flat (List.replicate m z0)).toArray := by
    apply Array.ext_getElem?
    intro j
    rw [hz1]
    have hfl := E.flat_len (List.replicate m z0)
    rw [List.length_replicate] at hfl
    rcases Nat.lt_or_ge j (m * E.sz) with hj | hj
    · have hq : j / E.sz < m := by rw [Nat.div_lt_iff_lt_mul E.pos]; exact hj
      have hmod : j % E.sz < E.sz := Nat.mod_lt _ E.pos
      have h1 := E.flat_get (List.replicate m z0) (j / E.sz) z0 (by simp [hq]) (j % E.sz) ((E.enc z0)[j % E.sz]'(by rw [E.len]; exact hmod)) (List.getElem?_eq_getElem _)
      rw [Nat.mul_comm, Nat.div_add_mod] at h1
      have e1 : (E.flat (List.replicate m z0)).toArray[j]? = (E.flat (List.replicate m z0))[j]? := by simp
      rw [e1, h1]
      simp only [madeCells, Array.getElem?_map, hzs]
      simp only [hz]
      rw [Array.getElem?_eq_getElem (by simpa using hj)]
      simp [getElem!_pos z.cells (j % E.sz) (by omega)]
    · have e1 : (E.flat (List.replicate m z0)).toArray[j]? = (E.flat (List.replicate m z0))[j]? := by simp
      rw [e1, Array.getElem?_eq_none (by simpa [madeCells] using hj), List.getElem?_eq_none (by omega)]
  rw [hcs] at hr
  unfold execOp
  simp only [ho, hx, hy, Sem.run_bind, Sem.run_pure, Result.andThen_ok, hr]
/-- make([]T, n). -/
theorem step_make0 (E : Enc α) {t T : TypeId} {z : Value} {bytes : Nat} {n : Int} {z0 : α} (hg : Region.wanted o (yielded ops a.tmps) = true) (x y : Operand) (ho : o.op = .makeSlice t x y) (hx : a.eval x = .int .i64 n) (hy : a.eval y = .int .i64 n)
    (ht : P.underlying t = some (.slice T)) (hinfo : (P.info? T).map (fun i => (i.zero, i.size, i.bytes)) = some (some z, E.sz, bytes)) (hz : E.enc z0 = z.cells.toList) (hb0 : 0 < bytes)
    (h0 : 0 ≤ n) (hl : n.toNat * bytes ≤ 281474976710656)
    (k : ∀ A c w', Own E T w' w.heap.size (.slice A (List.replicate n.toNat z0).length c) (List.replicate n.toNat z0) → Up w w' → wpList P ops Q rest (a.put o.dst (.slice A (List.replicate n.toNat z0).length c)) w') : wpList P ops Q (o :: rest) a w := by
  obtain ⟨m, rfl⟩ := Int.eq_ofNat_of_zero_le h0
  simp only [Int.toNat_natCast] at hl k
  obtain ⟨i0, hi, hzz⟩ := Option.map_eq_some_iff.1 hinfo
  simp only [Prod.mk.injEq] at hzz
  obtain ⟨hz0, hz1, hz2⟩ := hzz
  have hm : m ≤ 281474976710656 := Nat.le_trans (Nat.le_mul_of_pos_right _ hb0) hl
  have hr := run_make (P := P) w t T i0 z ht hi hz0 .i64 .i64 (m : Int) (m : Int) (by omega) (by omega)
    (by
      have h3 : ((i0.bytes * m : Nat) : Int) ≤ 281474976710656 := by rw [hz2, Nat.mul_comm]; omega
      rwa [Int.natCast_mul] at h3) (by omega)
  simp only [Int.toNat_natCast] at hr
  have hzs : z.cells.size = E.sz := by rw [← Array.length_toList, ← hz, E.len]
  have hcs : madeCells z.cells (m * i0.size) = (E.flat (List.replicate m z0)).toArray := by
    apply Array.ext_getElem?
    intro j
    rw [hz1]
    have hfl := E.flat_len (List.replicate m z0)
    rw [List.length_replicate] at hfl
    rcases Nat.lt_or_ge j (m * E.sz) with hj | hj
    · have hq : j / E.sz < m := by rw [Nat.div_lt_iff_lt_mul E.pos]; exact hj
      have hmod : j % E.sz < E.sz := Nat.mod_lt _ E.pos
      have h1 := E.flat_get (List.replicate m z0) (j / E.sz) z0 (by simp [hq]) (j % E.sz) ((E.enc z0)[j % E.sz]'(by rw [E.len]; exact hmod)) (List.getElem?_eq_getElem _)
      rw [Nat.mul_comm, Nat.div_add_mod] at h1
      have e1 : (E.flat (List.replicate m z0)).toArray[j]? = (E.flat (List.replicate m z0))[j]? := by simp
      rw [e1, h1]
      simp only [madeCells, Array.getElem?_map, hzs]
      simp only [hz]
      rw [Array.getElem?_eq_getElem (by simpa using hj)]
      simp [getElem!_pos z.cells (j % E.sz) (by omega)]
    · have e1 : (E.flat (List.replicate m z0)).toArray[j]? = (E.flat (List.replicate m z0))[j]? := by simp
      rw [e1, Array.getElem?_eq_none (by simpa [madeCells] using hj), List.getElem?_eq_none (by omega)]
  rw [hcs] at hr
  refine wpList_step fun K hK => ?_
  rw [if_pos hg]
  unfold Oper.wp execOp
  simp only [ho, hx, hy, Sem.run_bind, Sem.run_pure, Result.andThen_ok, hr]
  have hB : Blk (w.alloc (.cells (E.flat (List.replicate m z0)).toArray T)) w.heap.size (E.flat (List.replicate m z0)) T := Blk.alloc _ _ _
  have hO := Own.of_blk (base := w.heap.size) (xs := List.replicate m z0) (n := m) hB (Nat.le_refl _) (by simp) (by omega) rfl
  have hlm : (List.replicate m z0).length = m := by simp
  have hfin := hK _ _ (k (some ⟨w.heap.size, 0, none⟩) m _ (by rw [hlm]; exact hO) ((Up.refl w).alloc _))
  rw [hlm] at hfin
  exact hfin
theorem step_make (E : Enc α) {t T : TypeId} {z : Value} {bytes : Nat} {n : Int} {z0 : α} (hg : Region.wanted o (yielded ops a.tmps) = true) (x y : Operand) (ho : o.op = .makeSlice t x y) (hx : a.eval x = .int .i64 n) (hy : a.eval y = .int .i64 n)
    (ht : P.underlying t = some (.slice T)) (hinfo : (P.info? T).map (fun i => (i.zero, i.size, i.bytes)) = some (some z, E.sz, bytes)) (hz : E.enc z0 = z.cells.toList) (hb0 : 0 < bytes)
    (h0 : 0 ≤ n) (hl : n.toNat * bytes ≤ 281474976710656)
    (k : ∀ A c w', Own E T w' w.heap.size (.slice A (repl n.toNat z0).length c) (repl n.toNat z0) → Up w w' → wpList P ops Q rest (a.put o.dst (.slice A (repl n.toNat z0).length c)) w') : wpList P ops Q (o :: rest) a w :=
  step_make0 (P := P) E hg x y ho hx hy ht hinfo hz hb0 h0 hl k
end
/-! ### An element is read -/
/-- Element i, if there is one. -/
def idx {α : Type} (xs : List α) (i : Int) : Option α := if 0 ≤ i then xs[i.toNat]? else none
theorem idx_some {α : Type} {xs : List α} {i : Int} {x : α} (h : idx xs i = some x) : 0 ≤ i ∧ i < xs.length ∧ xs[i.toNat]? = some x := by
  unfold idx at h
  split at h
  · rename_i h0
    have := (List.getElem?_eq_some_iff.1 h).1
    exact ⟨h0, by omega, h⟩
  · cases h
theorem addr_add0 (a : Addr) : a.add 0 = a := by unfold Addr.add; simp
theorem addr_addadd (a : Addr) (i j : Nat) : (a.add i).add j = a.add (i + j) := by
  unfold Addr.add
  by_cases h1 : i = 0 <;> by_cases h2 : j = 0 <;> simp [h1, h2, Nat.add_assoc]
section
variable {P : Program} {ops : Array Oper} {rest : List Oper} {o : Oper} {a : Act} {w : World} {Q : Exit → Act → World → Prop} {α : Type} {E : Enc α}
theorem Rd.idx {A : Option Addr} {xs : List α} (h : Rd E w A xs) {i : Int} {x : α} (hi : idx xs i = some x) : ∃ ad0, A = some ad0 ∧ ad0.block < w.heap.size ∧ ∀ j u, (E.enc x)[j]? = some u → w.cell? ((ad0.add (i.toNat * E.sz)).add j) = some u := by
  obtain ⟨h0, h1, h2⟩ := idx_some hi
  obtain ⟨ad, e, hb, hc⟩ := h.cells (by omega)
  exact ⟨ad, e, hb, fun j u hu => by rw [addr_addadd]; exact hc _ _ (E.flat_get xs i.toNat x h2 j u hu)⟩
theorem run_indexAt {t T : TypeId} {ad0 : Addr} {n c : Nat} {i : Int} (ht : P.underlying t = some (.slice T)) (hsz : (P.info? T).map (·.size) = some E.sz) (h0 : 0 ≤ i) (h1 : i < n) :
    (Instr.indexAt t (.slice (some ad0) n c) (.int .i64 i)).run P w = .ok (.pointer (some (ad0.add (i.toNat * E.sz)))) w := by
  obtain ⟨i0, hi, hs⟩ := Option.map_eq_some_iff.1 hsz
  simp [Instr.indexAt, run_underlying ht, sizeOf, typeInfo, hi, hs, h0, h1, asIntOf]
/-- The address of element i of the slice at A. -/
structure At (A : Option Addr) (i : Int) (sz : Nat) (ad : Addr) : Prop where mk :: (out : ∃ ad0, A = some ad0 ∧ ad = ad0.add (i.toNat * sz))
theorem step_index (E : Enc α) {t T : TypeId} {A : Option Addr} {n c : Nat} {xs : List α} {i : Int} {el : α} (hg : Region.wanted o (yielded ops a.tmps) = true) {x y : Operand} (ho : o.op = .indexAddr t x y) (ht : P.underlying t = some (.slice T))
    (hsz : (P.info? T).map (·.size) = some E.sz) (hx : a.eval x = .slice A n c) (hn : n = xs.length) (hy : a.eval y = .int .i64 i) (HR : Rd E w A xs) (hi : idx xs i = some el)
    (k : ∀ ad, At A i E.sz ad → (∀ j u, (E.enc el)[j]? = some u → w.cell? (ad.add j) = some u) → wpList P ops Q rest (a.put o.dst (.pointer (some ad))) w) : wpList P ops Q (o :: rest) a w := by
  subst hn
  obtain ⟨ad0, rfl, _, hc⟩ := HR.idx hi
  obtain ⟨h0, h1, _⟩ := idx_some hi
  refine wpList_step fun K hK => ?_
  rw [if_pos hg]
  unfold Oper.wp execOp
  simp only [ho, hx, hy, Sem.run_bind, Sem.run_pure, Result.andThen_ok, run_indexAt (E := E) (c := c) ht hsz h0 h1]
  exact hK _ _ (k _ ⟨_, rfl, rfl⟩ hc)
theorem rd_at {A : Option Addr} {xs : List α} (h : Rd E w A xs) {i : Int} {x : α} (hi : idx xs i = some x) : ∃ ad, At A i E.sz ad ∧ ∀ j u, (E.enc x)[j]? = some u → w.cell? (ad.add j) = some u := by
  obtain ⟨ad0, e, _, hc⟩ := h.idx hi
  exact ⟨_, ⟨ad0, e, rfl⟩, hc⟩
theorem quiet_index (E : Enc α) {t T : TypeId} {A : Option Addr} {ad0 : Addr} {n c : Nat} {xs : List α} {i : Int} {el : α} {C : World → Prop} {x y : Operand} (ho : o.op = .indexAddr t x y) (ht : P.underlying t = some (.slice T))
    (hsz : (P.info? T).map (·.size) = some E.sz) (hx : a.eval x = .slice A n c) (hn : n = xs.length) (hy : a.eval y = .int .i64 i) (hA : At A i E.sz ad0) (hi : idx xs i = some el) : o.quietAt P a C w (.pointer (some ad0)) := by
  obtain ⟨ad1, rfl, rfl⟩ := hA.out
  subst hn
  obtain ⟨h0, h1, _⟩ := idx_some hi
  unfold Oper.quietAt execOp
  simp only [ho, hx, hy, Sem.run_bind, Sem.run_pure, Result.andThen_ok, run_indexAt (E := E) (c := c) ht hsz h0 h1]
  exact ⟨rfl, rfl⟩
theorem splice_list {β : Type} (L eo vs : List β) (s off z : Nat) (he : (L.drop s).take z = eo) (hz : eo.length = z) (ho : off + vs.length ≤ z) :
    L.take (s + off) ++ vs ++ L.drop (s + off + vs.length) = L.take s ++ (eo.take off ++ vs ++ eo.drop (off + vs.length)) ++ L.drop (s + z) := by
  subst he
  rw [List.take_add, List.take_take, Nat.min_eq_left (by omega), List.drop_take]
  simp only [List.append_assoc]
  congr 3
  have h1 : L.drop (s + off + vs.length) = (L.drop s).drop (off + vs.length) := by rw [List.drop_drop, Nat.add_assoc]
  have h2 : L.drop (s + z) = ((L.drop s).drop (off + vs.length)).drop (z - (off + vs.length)) := by rw [List.drop_drop, List.drop_drop]; congr 1; omega
  rw [h1, h2]
  generalize (L.drop s).drop (off + vs.length) = M
  exact (List.take_append_drop _ _).symm
/-- An element of a row of the call's own is written, whole or in part. -/
theorem step_put (E : Enc α) {t T : TypeId} {A : Option Addr} {c base : Nat} {xs : List α} {i : Int} {ad pa : Addr} {old new : α} {u : Value} (off : Nat) (hg : o.guard = none) (hd : o.dst = none) {p x : Operand} (ho : o.op = .store t p x)
    (hA : At A i E.sz ad) (hpa : pa = ad.add off) (hp : a.eval p = .pointer (some pa)) (hx : a.eval x = u) (ht : (P.info? t).map (·.size) = some u.cells.size) (hone : ∀ y ∈ u.cells.toList, y.oneCell' = true)
    (hu : off + u.cells.size ≤ E.sz) (hnew : E.enc new = (E.enc old).take off ++ u.cells.toList ++ (E.enc old).drop (off + u.cells.size))
    (HO : Own E T w base (.slice A xs.length c) xs) (hi : idx xs i = some old)
    (k : ∀ w', Own E T w' base (.slice A (xs.set i.toNat new).length c) (xs.set i.toNat new) → Grow (.slice A xs.length c) w w' → wpList P ops Q rest a w') : wpList P ops Q (o :: rest) a w := by
  obtain ⟨h0, h1, h2i⟩ := idx_some hi
  obtain ⟨ad0, rfl, rfl⟩ := hA.out
  subst hpa
  have hlen := E.flat_len xs
  rcases HO.out.2 with ⟨he, _⟩ | ⟨g, cap, cur, he, hbg, hh, hnc, hcm, hcs, htake⟩
  · cases he
  injection he with ha _ hc'
  injection ha with ha
  subst ha hc'
  obtain ⟨i0, hti, hs⟩ := Option.map_eq_some_iff.1 ht
  have hil : i.toNat < xs.length := by omega
  have hfit : i.toNat * E.sz + E.sz ≤ cur.size := by
    rw [← Nat.succ_mul]
    exact Nat.le_trans (Nat.mul_le_mul_right _ (by omega)) hcs
  have hadd : (⟨g, 0, none⟩ : Addr).add (i.toNat * E.sz) = ⟨g, i.toNat * E.sz, none⟩ := by unfold Addr.add; split <;> simp_all
  have hadd2 : (⟨g, i.toNat * E.sz, none⟩ : Addr).add off = ⟨g, i.toNat * E.sz + off, none⟩ := by unfold Addr.add; split <;> simp_all
  rw [hadd, hadd2] at hp
  have hcsz : u.cells.toList.length = u.cells.size := Array.length_toList
  have hst := run_storeCells_at P g (i.toNat * E.sz + off) T u.cells.toList 0 cur w hh (by rw [hcsz]; omega) hone
  simp only [Nat.add_zero] at hst
  have hcl : cur.toList.length = cur.size := Array.length_toList
  have hseg : (cur.toList.drop (i.toNat * E.sz)).take E.sz = E.enc old := by
    apply List.ext_getElem?
    intro j
    rcases Nat.lt_or_ge j E.sz with hj | hj
    · rw [List.getElem?_take, if_pos hj, List.getElem?_drop]
      have hjj : i.toNat * E.sz + j < xs.length * E.sz := by
        have h5 : (i.toNat + 1) * E.sz ≤ xs.length * E.sz := Nat.mul_le_mul_right _ hil
        rw [Nat.add_mul] at h5
        omega
      have h6 : cur.toList[i.toNat * E.sz + j]? = (E.flat xs)[i.toNat * E.sz + j]? := by rw [← htake, List.getElem?_take, if_pos hjj]
      have h7 := E.flat_get xs i.toNat old h2i j ((E.enc old)[j]'(by rw [E.len]; exact hj)) (List.getElem?_eq_getElem _)
      rw [h6, h7]
      exact (List.getElem?_eq_getElem _).symm
    · rw [List.getElem?_eq_none (by rw [List.length_take]; omega), List.getElem?_eq_none (by rw [E.len]; exact hj)]
  have hsp := splice_list cur.toList (E.enc old) u.cells.toList (i.toNat * E.sz) off E.sz hseg (E.len old) (by rw [hcsz]; exact hu)
  rw [hcsz, ← hnew] at hsp
  have hrun : (Instr.storeAt t (.pointer (some ⟨g, i.toNat * E.sz + off, none⟩)) u).run P w = .ok () (w.setRow g (cur.toList.take (i.toNat * E.sz) ++ E.enc new ++ cur.toList.drop (i.toNat * E.sz + E.sz)).toArray) := by
    rw [← hsp]
    simp only [hcsz] at hst
    simp [Instr.storeAt, Instr.sureAddr, storeVar, sizeOf, typeInfo, hti, hs, hst]
  have hflat : ((cur.toList.take (i.toNat * E.sz) ++ E.enc new ++ cur.toList.drop (i.toNat * E.sz + E.sz))).take (xs.length * E.sz) = E.flat (xs.set i.toNat new) := by
    apply List.ext_getElem?
    intro j
    have hl2 : (E.flat (xs.set i.toNat new)).length = xs.length * E.sz := by rw [E.flat_len, List.length_set]
    rcases Nat.lt_or_ge j (xs.length * E.sz) with hj | hj
    · have hq : j / E.sz < xs.length := by rw [Nat.div_lt_iff_lt_mul E.pos]; exact hj
      have hmod : j % E.sz < E.sz := Nat.mod_lt _ E.pos
      have hjd : j / E.sz * E.sz + j % E.sz = j := by rw [Nat.mul_comm]; exact Nat.div_add_mod j E.sz
      have hcl : cur.toList.length = cur.size := Array.length_toList
      have hjc : j < cur.toList.length := by
        rw [hcl]
        exact Nat.lt_of_lt_of_le hj (Nat.le_trans (Nat.mul_le_mul_right _ hnc) hcs)
      have ho : cur.toList[j]? = (E.flat xs)[j]? := by rw [← htake, List.getElem?_take, if_pos hj]
      rw [List.getElem?_take, if_pos hj]
      by_cases hji : j / E.sz = i.toNat
      · have h2 := E.flat_get (xs.set i.toNat new) (j / E.sz) new (by rw [hji]; simp [hil]) (j % E.sz) ((E.enc new)[j % E.sz]'(by rw [E.len]; exact hmod)) (List.getElem?_eq_getElem _)
        rw [hjd] at h2
        rw [h2, List.append_assoc, List.getElem?_append_right (by rw [List.length_take]; rw [← hji]; omega), List.length_take, Nat.min_eq_left (by omega), ← hji, List.getElem?_append_left (by rw [E.len]; omega)]
        have : j - j / E.sz * E.sz = j % E.sz := by omega
        rw [this]
        exact List.getElem?_eq_getElem _
      · have h2 := E.flat_get (xs.set i.toNat new) (j / E.sz) xs[j / E.sz] (by rw [List.getElem?_set_ne (Ne.symm hji)]; exact List.getElem?_eq_getElem hq) (j % E.sz) ((E.enc xs[j / E.sz])[j % E.sz]'(by rw [E.len]; exact hmod)) (List.getElem?_eq_getElem _)
        have h3 := E.flat_get xs (j / E.sz) xs[j / E.sz] (List.getElem?_eq_getElem hq) (j % E.sz) ((E.enc xs[j / E.sz])[j % E.sz]'(by rw [E.len]; exact hmod)) (List.getElem?_eq_getElem _)
        rw [hjd] at h2 h3
        rw [h2, ← h3, ← ho]
        rcases Nat.lt_or_ge j (i.toNat * E.sz) with hlt | hge
        · rw [List.append_assoc, List.getElem?_append_left (by rw [List.length_take]; omega), List.getElem?_take, if_pos hlt]
        · have hge2 : i.toNat * E.sz + E.sz ≤ j := by
            have : i.toNat < j / E.sz := by
              have : i.toNat ≤ j / E.sz := by rw [Nat.le_div_iff_mul_le E.pos]; exact hge
              omega
            have h5 : (i.toNat + 1) * E.sz ≤ j / E.sz * E.sz := Nat.mul_le_mul_right _ this
            rw [Nat.add_mul] at h5
            omega
          rw [List.getElem?_append_right (by rw [List.length_append, List.length_take, E.len]; omega), List.length_append, List.length_take, E.len, Nat.min_eq_left (by omega), List.getElem?_drop]
          congr 1
          omega
    · rw [List.getElem?_eq_none (by rw [List.length_take]; omega), List.getElem?_eq_none (by omega)]
  refine wpList_plain hg fun K hK => ?_
  unfold Oper.wp execOp
  simp only [ho, hp, hx, Sem.run_bind, Sem.run_pure, Result.andThen_ok, hrun]
  refine hK _ _ ?_
  rw [hd]
  refine k _ ⟨?_⟩ ⟨rfl, rfl, rfl, by simp, fun j _ hj => setRow_other w g j _ (fun e => hj (by rw [e]; rfl))⟩
  refine ⟨by rw [E.flat_len], .inr ⟨g, c, _, rfl, hbg, setRow_heap w g cur _ T _ hh, by rw [List.length_set]; exact hnc, hcm, ?_, by rw [List.length_set]; exact hflat⟩⟩
  simp only [List.size_toArray, List.length_append, List.length_take, List.length_drop, Array.length_toList, E.len]
  omega
/-- A value that bears a row of the call's own. -/
def RowTo (E : Enc α) (T : TypeId) (base : Nat) (xs : List α) (mk : Value → Value) : Value → World → Prop := fun v w => ∃ A c, v = mk (.slice A xs.length c) ∧ Own E T w base (.slice A xs.length c) xs
theorem stab_row (E : Enc α) (T : TypeId) (base : Nat) (xs : List α) (mk : Value → Value) : Stab (RowTo E T base xs mk) := fun _ _ _ ⟨A, c, e, h⟩ hu => ⟨A, c, e, h.up hu⟩
theorem fresh_make0 (E : Enc α) {t T : TypeId} {z : Value} {bytes base : Nat} {n : Int} {z0 : α} (x y : Operand) (ho : o.op = .makeSlice t x y) (hx : a.eval x = .int .i64 n) (hy : a.eval y = .int .i64 n)
    (ht : P.underlying t = some (.slice T)) (hinfo : (P.info? T).map (fun i => (i.zero, i.size, i.bytes)) = some (some z, E.sz, bytes)) (hz : E.enc z0 = z.cells.toList) (hb0 : 0 < bytes)
    (h0 : 0 ≤ n) (hl : n.toNat * bytes ≤ 281474976710656) (hm : n.toNat ≤ 9223372036854775807) (hb : base ≤ w.heap.size) : freshAt P o a w (RowTo E T base (List.replicate n.toNat z0) (fun v => v)) true := by
  have hrun := make_run (w := w) E x y ho hx hy ht hinfo hz hb0 h0 hl
  unfold freshAt
  rw [hrun]
  have hO := Own.of_blk (E := E) (base := base) (xs := List.replicate n.toNat z0) (n := n.toNat) (Blk.alloc w (E.flat (List.replicate n.toNat z0)) T) hb (by simp) hm rfl
  refine ⟨(Up.refl w).alloc _, ⟨some ⟨w.heap.size, 0, none⟩, n.toNat, by simp, by simpa using hO⟩, fun _ b hb => ?_⟩
  have : w.heap.size = b := by simpa [blk] using hb
  subst this
  simp
theorem fresh_make (E : Enc α) {t T : TypeId} {z : Value} {bytes base : Nat} {n : Int} {z0 : α} (x y : Operand) (ho : o.op = .makeSlice t x y) (hx : a.eval x = .int .i64 n) (hy : a.eval y = .int .i64 n)
    (ht : P.underlying t = some (.slice T)) (hinfo : (P.info? T).map (fun i => (i.zero, i.size, i.bytes)) = some (some z, E.sz, bytes)) (hz : E.enc z0 = z.cells.toList) (hb0 : 0 < bytes)
    (h0 : 0 ≤ n) (hl : n.toNat * bytes ≤ 281474976710656) (hm : n.toNat ≤ 9223372036854775807) (hb : base ≤ w.heap.size) : freshAt P o a w (RowTo E T base (repl n.toNat z0) (fun v => v)) true :=
  fresh_make0 (P := P) E x y ho hx hy ht hinfo hz hb0 h0 hl hm hb
/-! ### Cuts of rows -/
theorem Rd.take {A : Option Addr} {xs : List α} (h : Rd E w A xs) (n : Nat) : Rd E w A (xs.take n) := ⟨by have := h.len; simp; omega, fun hp => by
  have hp' : 0 < xs.length := by rw [List.length_take] at hp; omega
  obtain ⟨ad, e, hb, hc⟩ := h.cells hp'
  refine ⟨ad, e, hb, fun j u hu => hc j u ?_⟩
  have e2 : E.flat xs = E.flat (xs.take n) ++ E.flat (xs.drop n) := by rw [← E.flat_append, List.take_append_drop]
  rw [e2, List.getElem?_append_left (List.getElem?_eq_some_iff.1 hu).1]
  exact hu⟩
theorem Rd.drop {A : Option Addr} {xs : List α} (h : Rd E w A xs) {c n : Nat} (hcap : xs.length ≤ c) (hn : n ≤ xs.length) : Rd E w (if c = n then A else A.map (·.add (n * E.sz))) (xs.drop n) := ⟨by have := h.len; simp; omega, fun hp => by
  have hlt : n < xs.length := by rw [List.length_drop] at hp; omega
  rw [if_neg (by omega)]
  obtain ⟨ad, e, hb, hc⟩ := h.cells (by omega)
  subst e
  refine ⟨ad.add (n * E.sz), rfl, by rw [add_block]; exact hb, fun j u hu => ?_⟩
  rw [addr_addadd]
  apply hc
  have e2 : E.flat xs = E.flat (xs.take n) ++ E.flat (xs.drop n) := by rw [← E.flat_append, List.take_append_drop]
  have e3 : (E.flat (xs.take n)).length = n * E.sz := by rw [E.flat_len, List.length_take, Nat.min_eq_left hn]
  rw [e2, List.getElem?_append_right (by omega), e3, Nat.add_sub_cancel_left]
  exact hu⟩
theorem Rd.of_cells {ad : Addr} {xs : List α} (hl : xs.length ≤ 9223372036854775807) (h : ∀ j u, (E.flat xs)[j]? = some u → w.cell? (ad.add j) = some u) : Rd E w (some ad) xs := ⟨hl, fun hp => by
  have hpos : 0 < (E.flat xs).length := by rw [E.flat_len]; exact Nat.mul_pos hp E.pos
  have h0 := h 0 _ (List.getElem?_eq_getElem hpos)
  have := World.block_lt_of_cell? w _ h0
  rw [add_block] at this
  exact ⟨ad, rfl, this, h⟩⟩
theorem elem_of {t T : TypeId} (ht : P.underlying t = some (.slice T)) : P.underlying t = some (.slice (P.elem t)) ∧ P.elem t = T := by
  have : P.elem t = T := by simp [Program.elem, ht]
  rw [this]
  exact ⟨ht, rfl⟩
theorem run_cut_hi {t T : TypeId} {A : Option Addr} {n c : Nat} {i : Int} {sz : Nat} (ht : P.underlying t = some (.slice T)) (hsz : (P.info? T).map (·.size) = some sz) (h0 : 0 ≤ i) (h1 : i ≤ c) :
    (Instr.sliceAt t (.slice A n c) none (some (.int .i64 i)) none).run P w = .ok (.slice A i.toNat c) w := by
  obtain ⟨i0, hi, hs⟩ := Option.map_eq_some_iff.1 hsz
  obtain ⟨h2, h3⟩ := elem_of ht
  rw [run_sliceAt_slice w t _ _ _ _ h2, run_slice_h w t A n c h2 .i64 i h0 h1, h3]
  simp [sizeOf, typeInfo, hi, hs, sliced, addr_add0]
theorem fresh_row1 {T : TypeId} {base : Nat} {xs : List α} {f : FuncId} {args : Array Value} (hrun : (execOp a.eval o).run P w = .ok (.enter f args) w)
    (h : Calls P f args w fun e w' => ∃ A c, e = .returned (.slice A xs.length c) ∧ Own E T w' w.heap.size (.slice A xs.length c) xs ∧ Up w w') (hb : base ≤ w.heap.size) : freshAt P o a w (RowTo E T base xs (fun v => v)) true := by
  unfold freshAt
  rw [hrun]
  refine ⟨rfl, h.mono fun e w' ⟨A, c, he, hO, hu⟩ => ?_⟩
  exact ⟨_, he, hu, ⟨A, c, rfl, hO.lower hb⟩, fun _ b hb => hO.lt b hb⟩
/-- An operation without a guard. -/
theorem wpp (h : ∀ K : Act → World → Prop, (∀ a w, wpList P ops Q rest a w → K a w) → o.wp P a w K Q) (hg : o.guard = none := by rfl) : wpList P ops Q (o :: rest) a w := wpList_plain hg h
theorem Grow.refl (v : Value) (w : World) : Grow v w w := ⟨rfl, rfl, rfl, Nat.le_refl _, fun _ _ _ => rfl⟩
theorem Grow.trans {v : Value} {x y z : World} (g : Grow v x y) (h : Grow v y z) : Grow v x z :=
  ⟨h.os.trans g.os, h.tape.trans g.tape, h.output.trans g.output, Nat.le_trans g.size h.size, fun k hk hne => (h.block k (Nat.lt_of_lt_of_le hk g.size) hne).trans (g.block k hk hne)⟩
theorem Grow.up {v : Value} {x y : World} (u : Up x y) : Grow v x y := ⟨u.out.os, u.out.tape, u.out.output, u.out.size, fun k hk _ => u.out.block k hk⟩
theorem Grow.same {A : Option Addr} {n c m d : Nat} {x y : World} (g : Grow (.slice A n c) x y) : Grow (.slice A m d) x y :=
  ⟨g.os, g.tape, g.output, g.size, fun k hk hne => g.block k hk (fun e => hne (by rw [← e]; cases A <;> rfl))⟩
/-- A slice's beginning is a row still. -/
theorem Own.take {T : TypeId} {A : Option Addr} {c base m : Nat} {xs : List α} (h : Own E T w base (.slice A xs.length c) xs) (hm : m ≤ xs.length) : Own E T w base (.slice A (xs.take m).length c) (xs.take m) := by
  have hl : (xs.take m).length = m := by rw [List.length_take]; omega
  refine ⟨⟨by rw [E.flat_len], ?_⟩⟩
  rcases h.out.2 with ⟨he, h0⟩ | ⟨g, cap, cur, he, hg, hh, hnc, hcm, hcs, htake⟩
  · have hm0 : (xs.take m).length = 0 := by omega
    injection he with h1 h2 h3
    exact .inl ⟨by rw [h1, h3, hm0], hm0⟩
  · injection he with h1 _ h3
    subst h1 h3
    refine .inr ⟨g, c, cur, rfl, hg, hh, by omega, hcm, hcs, ?_⟩
    have h5 : E.flat (xs.take m) = (E.flat xs).take (m * E.sz) := by
      have h6 : E.flat xs = E.flat (xs.take m) ++ E.flat (xs.drop m) := by rw [← E.flat_append, List.take_append_drop]
      have h7 := E.flat_len (xs.take m)
      rw [hl] at h7
      have h8 : (E.flat (xs.take m) ++ E.flat (xs.drop m)).take (m * E.sz) = E.flat (xs.take m) := by
        rw [List.take_append_of_le_length (by omega), List.take_of_length_le (by omega)]
      rw [← h6] at h8
      exact h8.symm
    rw [h5, ← htake, hl, List.take_take, Nat.min_eq_left (Nat.mul_le_mul_right _ hm)]
/-! ### Cuts -/
def cutHi {α : Type} (xs : List α) (i : Int) : Option (List α) := if 0 ≤ i ∧ i ≤ xs.length then some (xs.take i.toNat) else none
theorem cutHi_some {α : Type} {xs ys : List α} {i : Int} (h : cutHi xs i = some ys) : 0 ≤ i ∧ i ≤ xs.length ∧ ys = xs.take i.toNat ∧ i.toNat = ys.length := by
  unfold cutHi at h
  split at h
  · rename_i hh
    obtain rfl := Option.some.inj h
    refine ⟨hh.1, hh.2, rfl, ?_⟩
    rw [List.length_take]
    omega
  · cases h
theorem Own.cutHi {T : TypeId} {A : Option Addr} {c base : Nat} {xs ys : List α} {i : Int} (h : Own E T w base (.slice A xs.length c) xs) (hc : cutHi xs i = some ys) : Own E T w base (.slice A ys.length c) ys := by
  obtain ⟨h0, h1, rfl, _⟩ := cutHi_some hc
  exact h.take (by omega)
theorem Own.short {T : TypeId} {A : Option Addr} {c base m : Nat} {xs : List α} (h : Own E T w base (.slice A xs.length c) xs) (hm : m ≤ c) (hx : xs.length ≤ m) : Own E T w base (.slice A xs.length m) xs := by
  refine ⟨⟨h.out.1, ?_⟩⟩
  rcases h.out.2 with ⟨he, h0⟩ | ⟨g, cap, cur, he, hg, hh, hnc, hcm, hcs, htake⟩
  · injection he with h1 _ h3
    have : m = 0 := by omega
    exact .inl ⟨by rw [h1, h0, this], h0⟩
  · injection he with h1 _ h3
    subst h1 h3
    exact .inr ⟨g, m, cur, rfl, hg, hh, hx, by omega, Nat.le_trans (Nat.mul_le_mul_right _ hm) hcs, htake⟩
theorem Own.cutHm {T : TypeId} {A : Option Addr} {c base : Nat} {xs ys : List α} {i : Int} (h : Own E T w base (.slice A xs.length c) xs) (hc : Go.Proofs.Ytccbmdpikalpfaa.cutHi xs i = some ys) : Own E T w base (.slice A ys.length ys.length) ys := by
  have h2 := h.cutHi hc
  exact h2.short h2.cap (Nat.le_refl _)
theorem Rd.cutHi {A : Option Addr} {xs ys : List α} {i : Int} (h : Rd E w A xs) (hc : Go.Proofs.Ytccbmdpikalpfaa.cutHi xs i = some ys) : Rd E w A ys := by
  obtain ⟨h0, h1, rfl, _⟩ := cutHi_some hc
  exact h.take _
theorem step_cut_hi (sz : Nat) {t T : TypeId} {A : Option Addr} {n c : Nat} {i : Int} {xs ys : List α} (hg : Region.wanted o (yielded ops a.tmps) = true) {x z : Operand} (ho : o.op = .slice t x none (some z) none) (ht : P.underlying t = some (.slice T)) (hsz : (P.info? T).map (·.size) = some sz)
    (hx : a.eval x = .slice A n c) (hz : a.eval z = .int .i64 i) (hcap : xs.length ≤ c) (hc : Go.Proofs.Ytccbmdpikalpfaa.cutHi xs i = some ys)
    (k : wpList P ops Q rest (a.put o.dst (.slice A ys.length c)) w) : wpList P ops Q (o :: rest) a w := by
  obtain ⟨h0, h1, rfl, hl⟩ := cutHi_some hc
  rw [← hl] at k
  refine wpList_step fun K hK => ?_
  rw [if_pos hg]
  unfold Oper.wp execOp
  simp only [ho, hx, hz, Option.map_some, Option.map_none, Sem.run_bind, Sem.run_pure, Result.andThen_ok, run_cut_hi (A := A) (n := n) (c := c) ht hsz h0 (by omega)]
  exact hK _ _ k
theorem run_cut_hm {t T : TypeId} {A : Option Addr} {n c : Nat} {i : Int} {sz : Nat} (ht : P.underlying t = some (.slice T)) (hsz : (P.info? T).map (·.size) = some sz) (h0 : 0 ≤ i) (h1 : i ≤ c) :
    (Instr.sliceAt t (.slice A n c) none (some (.int .i64 i)) (some (.int .i64 i))).run P w = .ok (.slice A i.toNat i.toNat) w := by
  obtain ⟨i0, hi, hs⟩ := Option.map_eq_some_iff.1 hsz
  obtain ⟨h2, h3⟩ := elem_of ht
  rw [run_sliceAt_slice w t _ _ _ _ h2, run_slice_hm w t A n c h2 .i64 .i64 i i h0 (Int.le_refl _) h1, h3]
  simp [sizeOf, typeInfo, hi, hs, sliced, addr_add0]
theorem step_cut_hm (sz : Nat) {t T : TypeId} {A : Option Addr} {n c : Nat} {i : Int} {xs ys : List α} (hg : Region.wanted o (yielded ops a.tmps) = true) {x z z' : Operand} (ho : o.op = .slice t x none (some z) (some z')) (ht : P.underlying t = some (.slice T)) (hsz : (P.info? T).map (·.size) = some sz)
    (hx : a.eval x = .slice A n c) (hz : a.eval z = .int .i64 i) (hz' : a.eval z' = .int .i64 i) (hcap : xs.length ≤ c) (hc : Go.Proofs.Ytccbmdpikalpfaa.cutHi xs i = some ys)
    (k : wpList P ops Q rest (a.put o.dst (.slice A ys.length ys.length)) w) : wpList P ops Q (o :: rest) a w := by
  obtain ⟨h0, h1, rfl, hl⟩ := cutHi_some hc
  rw [← hl] at k
  refine wpList_step fun K hK => ?_
  rw [if_pos hg]
  unfold Oper.wp execOp
  simp only [ho, hx, hz, hz', Option.map_some, Option.map_none, Sem.run_bind, Sem.run_pure, Result.andThen_ok, run_cut_hm (A := A) (n := n) (c := c) ht hsz h0 (by omega)]
  exact hK _ _ k
/-! ### Boxes that a callee writes -/
theorem Grow.of_sto {b : Nat} {x y : World} (s : Sto b x y) : Grow (.pointer (some ⟨b, 0, none⟩)) x y :=
  ⟨s.os, s.tape, s.output, Nat.le_of_eq s.size.symm, fun k _ hne => s.block k (fun e => hne (by rw [e]; rfl))⟩
theorem Rd.blk_lt {A : Option Addr} {n c : Nat} {xs : List α} (h : Rd E w A xs) (hp : 0 < xs.length) (k : Nat) (hk : blk (.slice A n c) = some k) : k < w.heap.size := by
  obtain ⟨ad, rfl, h1, _⟩ := h.cells hp
  obtain rfl : ad.block = k := by simpa [blk] using hk
  exact h1
theorem Rd.moved {w' : World} {A : Option Addr} {xs : List α} (h : Rd E w A xs) (hs : w.heap.size ≤ w'.heap.size) (hm : ∀ a, A = some a → 0 < xs.length → w'.heap[a.block]? = w.heap[a.block]?) : Rd E w' A xs := ⟨h.len, fun hp => by
  obtain ⟨ad, hA, h1, h2⟩ := h.cells hp
  refine ⟨ad, hA, Nat.lt_of_lt_of_le h1 hs, fun j u hu => ?_⟩
  rw [World.cell?_of_block (w := w) (by rw [add_block]; exact hm ad hA hp)]
  exact h2 j u hu⟩
theorem Rd.sto {w' : World} {A : Option Addr} {b c : Nat} {xs : List α} (h : Rd E w A xs) (s : Sto b w w') (hne : ∀ k, blk (.slice A xs.length c) = some k → 0 < xs.length → k ≠ b) : Rd E w' A xs :=
  h.moved (Nat.le_of_eq s.size.symm) fun a hA hp => s.block _ (hne _ (by rw [hA]; rfl) hp)
theorem Rd.growp {w' : World} {A : Option Addr} {b c : Nat} {xs : List α} (h : Rd E w A xs) (g : Grow (.pointer (some ⟨b, 0, none⟩)) w w') (hne : ∀ k, blk (.slice A xs.length c) = some k → 0 < xs.length → k ≠ b) : Rd E w' A xs := by
  rcases Nat.eq_zero_or_pos xs.length with h0 | hp
  · exact ⟨h.len, fun hp => absurd h0 (Nat.ne_of_gt hp)⟩
  · obtain ⟨ad, hA, h1, _⟩ := h.cells hp
    refine h.moved g.size fun a ha _ => ?_
    obtain rfl : ad = a := Option.some.inj (hA.symm.trans ha)
    exact g.block _ h1 (fun e => hne ad.block (by rw [hA]; rfl) hp (Option.some.inj e).symm)
def cutLo {α : Type} (xs : List α) (i : Int) : Option (List α) := if 0 ≤ i ∧ i ≤ xs.length then some (xs.drop i.toNat) else none
/-! ### The greater and the lesser of two numbers -/
def imax (x y : Int) : Int := if y > x then y else x
def imin (x y : Int) : Int := if y < x then y else x
theorem run_max2 {ats : Array TypeId} {ty : TypeId} {x y : Int} : Builtin.max_ ats ty #[.int .i64 x, .int .i64 y] = pure (.int .i64 (imax x y)) := rfl
theorem run_min2 {ats : Array TypeId} {ty : TypeId} {x y : Int} : Builtin.min_ ats ty #[.int .i64 x, .int .i64 y] = pure (.int .i64 (imin x y)) := rfl
/-! ### Where ways meet -/
def ovm (v : Nat → Value) : Nat → List Bool → List Value → List Value
  | _, [], l => l
  | _, _ :: _, [] => []
  | i, true :: m, _ :: l => v i :: ovm v (i + 1) m l
  | i, false :: m, x :: l => x :: ovm v (i + 1) m l
/-- What comes behind a choice is shown once: from any state that differs only where the mask says so. -/
theorem wp_seq_join {x y : Code} {Q : Exit → Act → World → Prop} {a : Act} {w : World} (S : List Bool) (T : World → Prop) (hJ : ∀ (v : Nat → Value) (w' : World), T w' → y.wp P Q { a with tmps := (ovm v 0 S a.tmps.toList).toArray } w')
    (h : ∀ K : Act → World → Prop, (∀ a' w', a'.defers = a.defers → ovm (fun i => a'.tmps.getD i undef) 0 S a.tmps.toList = a'.tmps.toList → T w' → K a' w') → x.wp P (Exit.then K Q) a w) : (Code.seq x y).wp P Q a w :=
  wp_seq_k fun K hK => h K fun a' w' hd ht hT => hK _ _ (by
    have h1 := hJ (fun i => a'.tmps.getD i undef) w' hT
    rw [ht] at h1
    obtain ⟨t, d⟩ := a'
    simp only at hd h1 ⊢
    subst hd
    simpa using h1)
/-! ### Floats and mains in any mixture -/
def apB (ops : Array Oper) (k f : Nat) : Bool := match ops[k]?, ops[f]? with
  | some o, some of => o.apart ops of
  | _, _ => false
def chainL (ops : Array Oper) : List Nat → Bool
  | [] => true
  | [_] => true
  | k :: l :: r => Region.waitsFor .any ops l k && chainL ops (l :: r)
def mixB (ops : Array Oper) (F C : List Nat) : Bool :=
  Region.noSelect ops &&
  ((List.range ops.size).all fun i => (F.contains i || C.contains i) && match ops[i]? with
    | none => false
    | some o => o.after.all fun e => !Region.binds .any e || decide (e.on < i)) &&
  ((F ++ C).all fun i => decide (i < ops.size)) && decide ((F ++ C).Nodup) && decide (F.Pairwise (· < ·)) && chainL ops C &&
  (F.all fun i => F.all fun f => decide (i ≤ f) || Region.waitsFor .any ops i f || apB ops i f) &&
  (C.all fun k => F.all fun f => Region.waitsFor .any ops k f || apB ops k f)
def pick (l : List Oper) : List Nat → List Oper
  | [] => []
  | f :: F => match l.drop f with
    | [] => pick l F
    | o :: _ => o :: pick l F
end
end Go.Proofs.Ytccbmdpikalpfaa
