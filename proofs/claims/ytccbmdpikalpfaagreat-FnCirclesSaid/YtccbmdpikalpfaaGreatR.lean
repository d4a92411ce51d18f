/- The frame of the rows of this seat: arguments that are arrays and structs of integers are opened, and a call that only lets the world grow leaves them as they were. -/
import Derived.Test.YtccbmdpikalpfaaGreatRows
import Derived.Test.YtccbmdpikalpfaaGreatK
import Derived.WalkKit
import Derived.ProofKit
import Derived.OpenShut
import Derived.ReadAgain
namespace Go.Proofs.YtccbmdpikalpfaaGreat
open Go Go.ChangeShapes Go.WideShapes Go.ChangeAt Go.RowKit

/-- A type whose values are n integers. -/
def IntCells (P : Program) (t : TypeId) (n : Nat) : Prop := P.cellsOf t = n ∧ ∀ {H : Type} (enc : TypeId × Value → H) (w : World) (base : Nat) (spare : Nat → Bool) (held : Bool) (fuel : Nat) (cs : List Value) x,
  DataW.trod enc P w base spare held fuel t cs = some x → cs.length = n ∧ ∀ c ∈ cs, ∃ k, c = .int .i64 k ∧ (Lit.int .i64 k).wf = true

theorem mapM_all {α β : Type} {f : α → Option β} : ∀ {l : List α} {ys : List β}, l.mapM f = some ys → ∀ a ∈ l, ∃ y, f a = some y
  | [], _, _, a, ha => by cases ha
  | b :: l, ys, h, a, ha => by
    rw [List.mapM_cons] at h
    cases hb : f b with
    | none => rw [hb] at h; cases h
    | some y =>
      rw [hb] at h
      cases hl : l.mapM f with
      | none => simp [hl] at h
      | some zs =>
        rcases List.mem_cons.1 ha with rfl | ha
        · exact ⟨y, hb⟩
        · exact mapM_all hl a ha

theorem IntCells.int {P : Program} {t : TypeId} (ht : P.underlying t = some (.int .i64)) (hc : P.cellsOf t = 1) : IntCells P t 1 := by
  refine ⟨hc, fun enc w base spare held fuel cs x h => ?_⟩
  cases fuel with
  | zero => simp [DataW.trod] at h
  | succ n =>
    unfold DataW.trod at h
    rw [ht] at h
    split at h <;> simp_all

theorem chunk_mem {cs : List Value} {o m j : Nat} {c : Value} (hj : cs[j]? = some c) (h1 : o ≤ j) (h2 : j < o + m) : c ∈ (cs.drop o).take m := by
  refine List.mem_of_getElem? (i := j - o) ?_
  rw [List.getElem?_take, if_pos (by omega), List.getElem?_drop, show o + (j - o) = j by omega]
  exact hj

theorem IntCells.array {P : Program} {t e : TypeId} {n m : Nat} (ht : P.underlying t = some (.array n e)) (he : IntCells P e m) (hc : P.cellsOf t = n * m) : IntCells P t (n * m) := by
  refine ⟨hc, fun enc w base spare held fuel cs x h => ?_⟩
  cases fuel with
  | zero => simp [DataW.trod] at h
  | succ fuel =>
    unfold DataW.trod at h
    rw [ht] at h
    simp only [he.1] at h
    split at h
    · rename_i hl
      refine ⟨hl.trans hc, fun c hcm => ?_⟩
      obtain ⟨j, hj, hjc⟩ := List.getElem_of_mem hcm
      have hlen : cs.length = n * m := hl.trans hc
      obtain ⟨ys, hys, _⟩ := Option.map_eq_some_iff.1 h
      have hm : 0 < m := by
        rcases Nat.eq_zero_or_pos m with h0 | h0
        · rw [h0] at hlen; simp at hlen; rw [hlen] at hj; simp at hj
        · exact h0
      have hi : j / m < n := by rw [Nat.div_lt_iff_lt_mul hm]; omega
      obtain ⟨y, hy⟩ := mapM_all hys (j / m) (List.mem_range.2 hi)
      have hd : j / m * m + j % m = j := by rw [Nat.mul_comm]; exact Nat.div_add_mod j m
      have hr := Nat.mod_lt j hm
      exact (he.2 enc w base spare held fuel _ y hy).2 c (chunk_mem (List.getElem?_eq_some_iff.2 ⟨hj, hjc⟩) (by omega) (by omega))
    · cases h

theorem IntCells.struct {P : Program} {t : TypeId} {fs : Array Field} {n : Nat} (ht : P.underlying t = some (.struct fs)) (hc : P.cellsOf t = n) (hf : ∀ f ∈ fs.toList, ∃ m, IntCells P f.type m)
    (hcov : ∀ j, j < n → ∃ f ∈ fs.toList, f.offset ≤ j ∧ j < f.offset + P.cellsOf f.type) : IntCells P t n := by
  refine ⟨hc, fun enc w base spare held fuel cs x h => ?_⟩
  cases fuel with
  | zero => simp [DataW.trod] at h
  | succ fuel =>
    unfold DataW.trod at h
    rw [ht] at h
    simp only at h
    split at h
    · rename_i hl
      have hlen : cs.length = n := hl.trans hc
      refine ⟨hlen, fun c hcm => ?_⟩
      obtain ⟨j, hj, hjc⟩ := List.getElem_of_mem hcm
      obtain ⟨ys, hys, _⟩ := Option.map_eq_some_iff.1 h
      obtain ⟨f, hfm, h1, h2⟩ := hcov j (by omega)
      obtain ⟨m, hm⟩ := hf f hfm
      obtain ⟨y, hy⟩ := mapM_all hys f hfm
      exact (hm.2 enc w base spare held fuel _ y hy).2 c (chunk_mem (List.getElem?_eq_some_iff.2 ⟨hj, hjc⟩) h1 h2)
    · cases h

theorem IntCells.struct' {P : Program} {t : TypeId} {n : Nat} {ts : List TypeId} (hs : (match P.underlying t with | some (.struct fs) => decide (∀ f ∈ fs.toList, f.type ∈ ts) && decide (∀ j ∈ List.range n, ∃ f ∈ fs.toList, f.offset ≤ j ∧ j < f.offset + P.cellsOf f.type) | _ => false) = true)
    (hc : P.cellsOf t = n) (hf : ∀ u ∈ ts, ∃ m, IntCells P u m) : IntCells P t n := by
  split at hs
  · rename_i fs hfs
    rw [Bool.and_eq_true] at hs
    have h1 := of_decide_eq_true hs.1
    have h2 := of_decide_eq_true hs.2
    exact IntCells.struct hfs hc (fun f hm => hf _ (h1 f hm)) (fun j hj => h2 j (List.mem_range.2 hj))
  · cases hs

theorem ints_map : ∀ {cs : List Value}, (∀ c ∈ cs, ∃ k, c = .int .i64 k ∧ (Lit.int .i64 k).wf = true) → ∃ xs : List Int, cs = xs.map (Value.int .i64) ∧ ∀ x ∈ xs, (Lit.int .i64 x).wf = true
  | [], _ => ⟨[], rfl, nofun⟩
  | c :: cs, h => by
    obtain ⟨k, rfl, hk⟩ := h c (List.mem_cons_self ..)
    obtain ⟨xs, rfl, hx⟩ := ints_map (cs := cs) fun d hd => h d (List.mem_cons_of_mem _ hd)
    exact ⟨k :: xs, rfl, fun x hx' => (List.mem_cons.1 hx').elim (fun e => e ▸ hk) (hx x)⟩

theorem open_ints_agg {P : Program} {H : Type} {enc : TypeId × Value → H} {w : World} {base b0 : Nat} {spare : Nat → Bool} {held : Bool} {r : Reach} {t : TypeId} {n : Nat} {v : Value} {d : DataW H} {p : List MemPlace}
    (hI : IntCells P t n) (hs : (match P.underlying t with | some (.struct _) | some (.array _ _) => true | _ => false) = true) (hv : Value.okWide P w r b0 t v) (h : DataW.Trod enc P w base spare held t v d p) :
    ∃ xs : List Int, xs.length = n ∧ v = .agg (xs.map (Value.int .i64)).toArray ∧ ∀ x ∈ xs, (Lit.int .i64 x).wf = true := by
  have : ∃ cs, v = .agg cs := by
    unfold Value.okWide at hv
    split at hv
    · obtain ⟨cs, h1, _⟩ := hv; exact ⟨cs, h1⟩
    · obtain ⟨cs, h1, _⟩ := hv; exact ⟨cs, h1⟩
    · rename_i hx1 hx2
      split at hs
      · rename_i fs hfs; exact absurd hfs (hx1 fs)
      · rename_i a b hab; exact absurd hab (hx2 a b)
      · cases hs
  obtain ⟨cs, rfl⟩ := this
  obtain ⟨fuel, hf⟩ := h
  obtain ⟨h1, h2⟩ := hI.2 enc w base spare held fuel _ _ hf
  obtain ⟨xs, hx, hw⟩ := ints_map h2
  refine ⟨xs, by rw [← h1, hx, List.length_map], ?_, hw⟩
  congr 1
  exact Array.toList_inj.1 (by simpa [Value.cells] using hx)

theorem len1 {α : Type} {xs : List α} (h : xs.length = 1) : ∃ a, xs = [a] := by match xs, h with | [a], _ => exact ⟨a, rfl⟩
theorem len2 {α : Type} {xs : List α} (h : xs.length = 2) : ∃ a b, xs = [a, b] := by match xs, h with | [a, b], _ => exact ⟨a, b, rfl⟩
theorem len3 {α : Type} {xs : List α} (h : xs.length = 3) : ∃ a b c, xs = [a, b, c] := by match xs, h with | [a, b, c], _ => exact ⟨a, b, c, rfl⟩
theorem len4 {α : Type} {xs : List α} (h : xs.length = 4) : ∃ a b c d, xs = [a, b, c, d] := by match xs, h with | [a, b, c, d], _ => exact ⟨a, b, c, d, rfl⟩
theorem len6 {α : Type} {xs : List α} (h : xs.length = 6) : ∃ a b c d e f, xs = [a, b, c, d, e, f] := by match xs, h with | [a, b, c, d, e, f], _ => exact ⟨a, b, c, d, e, f, rfl⟩

theorem up_same {W W' : World} (hu : Up W W') {p : MemPlace} (hp : p.block < W.heap.size) : W.sameAt W' p := by
  cases p with
  | cell b off => exact hu.cell hp
  | map b => exact hu.block hp

theorem trodAll_up {P : Program} {H : Type} {enc : TypeId × Value → H} {W W' : World} (hu : Up W W') {base : Nat} {spare : Nat → Bool} {held : Bool} : ∀ {ts : List TypeId} {vs : List Value} {ds : List (DataW H)} {ps : List MemPlace},
    DataW.TrodAll enc P W base spare held ts vs ds ps → (∀ p ∈ ps, p.block < W.heap.size) → DataW.TrodAll enc P W' base spare held ts vs ds ps
  | [], _, _, _, h, _ => by
    obtain ⟨rfl, rfl, rfl⟩ := trodAll_nil h
    exact trodAll_mk0
  | _ :: _, _, _, _, h, hp => by
    obtain ⟨v, vs1, d, ds1, a, b, rfl, rfl, rfl, ⟨n, h1⟩, h2⟩ := trodAll_cons h
    exact ⟨a, b, ⟨n, DataW.trod_carry n _ _ _ h1 fun p hpa => up_same hu (hp p (List.mem_append_left _ hpa))⟩, trodAll_up hu h2 fun p hpb => hp p (List.mem_append_right _ hpb), rfl⟩

theorem up_kept {W W' : World} (hu : Up W W') (may : MemPlace → Prop) : W.keptBut W' may := by
  refine ⟨hu.out.os, hu.out.output, fun i hi => ?_⟩
  rw [hu.block hi]
  cases hW : W.heap[i]? with
  | none => rfl
  | some o => cases o <;> simp

/-- What the row asks of a call that says true and only lets the world grow. -/
theorem post_up {P : Program} {H : Type} {enc : TypeId × Value → H} (K : Kids P (· < P.types.size)) (hz : ∀ t e, t < P.types.size → P.underlying t = some (.slice e) → 0 < P.cellsOf e) {f : Func} {s : ChangeSpec} {apart fresh handsOn again : Bool}
    {W W' : World} {args : Array Value} {ds : List (DataW H)} {before : List MemPlace} {B : TypeId} (hvs : s.vars = []) (hts : ∀ t ∈ f.params.toList, t < P.types.size) (hres : f.resultTypes = #[B]) (hB : P.underlying B = some .bool)
    (hW : DataW.Whole enc P f.params.toList s.vars apart W args.toList ds [] before) (hs : s.fn H (ds ++ []) = { results := [.lit (.bool true)], args := ds }) (hu : Up W W') :
    s.post enc P f apart fresh handsOn again W args (.bool true) W' := by
  have hW0 := hW
  have hlt := hW.lt
  obtain ⟨p, q, hA, hV, rfl, hzf, hnd⟩ := hW
  rw [hvs] at hV
  obtain ⟨_, rfl⟩ := trodVars_none hV
  have hlt' : ∀ x ∈ p, x.block < W.heap.size := fun x hx => hlt x (by simpa using hx)
  have hA' := trodAll_up hu hA hlt'
  have hargs : ∀ sp : Nat → Bool, (∀ x ∈ p ++ [], sp x.block = true) → DataW.TrodAll enc P W' 0 sp true f.params.toList args.toList (s.fn H (ds ++ [])).args p := fun sp hsp => by
    rw [hs]
    exact hA'.respare K hz hts (fun x hx => hsp x (by simpa using hx))
  have hresl : (Value.bool true).resultList f.resultTypes.size = [.bool true] := by rw [hres]; rfl
  have hRes : ∀ (b : Nat) (sp : Nat → Bool) (hd : Bool), DataW.TrodAll enc P W' b sp hd f.resultTypes.toList ((Value.bool true).resultList f.resultTypes.size) (s.fn H (ds ++ [])).results [] := fun b sp hd => by
    rw [hs, hresl, hres]
    exact trodAll_cons_mk (shut_bool hB _) trodAll_mk0
  have hVars : ∀ sp : Nat → Bool, DataW.TrodVars enc P W' sp s.vars (s.fn H (ds ++ [])).vars [] := fun sp => by
    rw [hs, hvs]
    exact rfl
  have hold : ∀ x ∈ p ++ [], (fun b => decide (b < W.heap.size)) x.block = true := fun x hx => by simpa using hlt x hx
  refine ⟨ds, [], p ++ [], [], p, [], hW0, hRes _ _ _, hargs _ hold, hVars _, up_kept hu _, fun _ => ?_⟩
  refine ⟨?_, _, _, ([] ++ p) ++ [], ⟨[] ++ p, [], trodAll_append (hargs _ (fun _ _ => rfl)) (hRes _ _ _), hVars _, rfl, ?_, ?_⟩, ?_⟩
  · intro j t r h1 h2
    rw [hres] at h1
    rw [hresl] at h2
    match j with
    | 0 =>
      simp at h1 h2
      subst h1 h2
      exact okWide_bool_mk hB _
    | j + 1 => simp at h1
  · intro b off hp
    have hp' : MemPlace.cell b off ∈ p ++ [] := by simpa using hp
    rw [hu.frozen (hlt _ hp')]
    exact hzf b off hp'
  · intro ha
    simpa using hnd ha
  · intro x hx _
    simpa using hx
end Go.Proofs.YtccbmdpikalpfaaGreat
