/- The frame of a row that lists one package-level variable of numbers: it holds what it held, and the arguments read as they read. -/
import Derived.Test.YtbibgeoohpgaeaaDoorR
import Derived.ChangeVars
namespace Go.Proofs.YtbibgeoohpgaeaaDoor
open Go Go.ChangeShapes Go.WideShapes Go.ChangeAt Go.RowKit
theorem var_up {P : Program} {W W' : World} (hu : Up W W') {n : String} {g : Nat} {cs : Array Value} (h1 : P.globalNamed n = some g) (h : W.var? P n = some cs) : W'.var? P n = some cs := by
  unfold World.var? at h ⊢
  rw [h1] at h ⊢
  simp only [Option.bind_some] at h ⊢
  have hg : g < W.heap.size := by
    cases hh : W.heap[g]? with
    | none => rw [hh] at h; cases h
    | some o => exact (Array.getElem?_eq_some_iff.1 hh).1
  rw [hu.block hg]
  exact h
theorem post_up_v {P : Program} {H : Type} {enc : TypeId × Value → H} (K : Kids P (· < P.types.size)) (hz : ∀ t e, t < P.types.size → P.underlying t = some (.slice e) → 0 < P.cellsOf e) {f : Func} {s : ChangeSpec} {apart fresh handsOn again : Bool} {n : String}
    {W W' : World} {args : Array Value} {ds gs : List (DataW H)} {before : List MemPlace} {B : TypeId} (hvs : s.vars = [n]) (hnt : ∀ g t, P.globalNamed n = some g → (P.globals[g]?).map (·.type) = some t → t < P.types.size) (hts : ∀ t ∈ f.params.toList, t < P.types.size) (hres : f.resultTypes = #[B]) (hB : P.underlying B = some .bool)
    (hW : DataW.Whole enc P f.params.toList s.vars apart W args.toList ds gs before) (hs : s.fn H (ds ++ gs) = { results := [.lit (.bool true)], args := ds, vars := gs }) (hu : Up W W') :
    s.post enc P f apart fresh handsOn again W args (.bool true) W' := by
  have hW0 := hW
  have hlt := hW.lt
  obtain ⟨p, q, hA, hV, rfl, hzf, hnd⟩ := hW
  have hlt' : ∀ x ∈ p, x.block < W.heap.size := fun x hx => hlt x (List.mem_append_left _ hx)
  have hA' := trodAll_up hu hA hlt'
  have hargs : ∀ sp : Nat → Bool, (∀ x ∈ p ++ q, sp x.block = true) → DataW.TrodAll enc P W' 0 sp true f.params.toList args.toList (s.fn H (ds ++ gs)).args p := fun sp hsp => by
    rw [hs]
    exact hA'.respare K hz hts (fun x hx => hsp x (List.mem_append_left _ hx))
  have hVars : ∀ sp : Nat → Bool, (∀ x ∈ p ++ q, sp x.block = true) → DataW.TrodVars enc P W' sp s.vars (s.fn H (ds ++ gs)).vars q := fun sp hsp => by
    rw [hs]
    rw [hvs] at hV ⊢
    obtain ⟨g, t, cs, fuel, d, p2, rfl, h1, h2, h3, h4, rfl⟩ := trodVars_one hV
    have h5 := DataW.trod_carry fuel _ _ _ h4 (fun x hx => up_same hu (hlt x (by simp [hx])))
    have h6 : DataW.TrodAll enc P W' 0 (fun _ => true) true [t] [.agg cs] [d] (p2 ++ []) := trodAll_cons_mk ⟨fuel, by simpa [Value.cells] using h5⟩ trodAll_mk0
    have h7 := h6.respare (spare' := sp) K hz (fun u hu' => by
      obtain rfl : u = t := by simpa using hu'
      exact hnt g u h1 h2) (fun x hx => hsp x (by simp at hx; simp [hx]))
    obtain ⟨v0, vs0, d0, ds0, p0, q0, hv0, hd0, hp0, ⟨n0, h8⟩, h9⟩ := trodAll_cons h7
    obtain ⟨_, _, rfl⟩ := trodAll_nil h9
    simp only [List.cons.injEq] at hv0 hd0
    obtain ⟨rfl, rfl⟩ := hv0
    obtain ⟨rfl, rfl⟩ := hd0
    simp only [List.append_nil] at hp0
    subst hp0
    exact trodVars_mk1 h1 h2 (var_up hu h1 h3) (by simpa [Value.cells] using h8)
  have hresl : (Value.bool true).resultList f.resultTypes.size = [.bool true] := by rw [hres]; rfl
  have hRes : ∀ (b : Nat) (sp : Nat → Bool) (hd : Bool), DataW.TrodAll enc P W' b sp hd f.resultTypes.toList ((Value.bool true).resultList f.resultTypes.size) (s.fn H (ds ++ gs)).results [] := fun b sp hd => by
    rw [hs, hresl, hres]
    exact trodAll_cons_mk (shut_bool hB _) trodAll_mk0
  have hold : ∀ x ∈ p ++ q, (fun b => decide (b < W.heap.size)) x.block = true := fun x hx => by simpa using hlt x hx
  refine ⟨ds, gs, p ++ q, [], p, q, hW0, hRes _ _ _, hargs _ hold, hVars _ hold, up_kept hu _, fun _ => ?_⟩
  refine ⟨?_, _, _, ([] ++ p) ++ q, ⟨[] ++ p, q, trodAll_append (hargs _ (fun _ _ => rfl)) (hRes _ _ _), hVars _ (fun _ _ => rfl), rfl, ?_, ?_⟩, ?_⟩
  · intro j t r h1 h2
    rw [hres] at h1
    rw [hresl] at h2
    match j with
    | 0 =>
      simp at h1 h2
      subst h1 h2
      exact okWide_bool_mk hB _
    | j + 1 => simp at h1
  · intro b off hp
    have hp' : MemPlace.cell b off ∈ p ++ q := by simpa using hp
    rw [hu.frozen (hlt _ hp')]
    exact hzf b off hp'
  · intro ha
    simpa using hnd ha
  · intro x hx _
    simpa using hx
end Go.Proofs.YtbibgeoohpgaeaaDoor
