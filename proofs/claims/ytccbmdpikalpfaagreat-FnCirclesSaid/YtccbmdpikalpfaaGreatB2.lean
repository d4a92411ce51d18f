/- sort.Slice over a row of lines of the call's own, by the program's own closure: the row holds what the library's sort makes of it. -/
import Derived.Test.YtccbmdpikalpfaaGreatB0
namespace Go.Proofs.YtccbmdpikalpfaaGreat
open Go Go.RowKit Go.Shelf Go.Lib Go.Sort
set_option linter.unusedVariables false
set_option linter.unusedSimpArgs false

theorem swo_lt3 : Go.Sort.SWO lt3 where
  irrefl x := by simp [lt3]
  trans x y z h1 h2 := by
    obtain ⟨x0, x1, x2⟩ := x
    obtain ⟨y0, y1, y2⟩ := y
    obtain ⟨z0, z1, z2⟩ := z
    simp only [lt3] at *
    repeat' split at h1
    all_goals repeat' split at h2
    all_goals repeat' split
    all_goals simp only [decide_eq_true_eq] at *
    all_goals omega
  ntrans x y z h1 h2 := by
    obtain ⟨x0, x1, x2⟩ := x
    obtain ⟨y0, y1, y2⟩ := y
    obtain ⟨z0, z1, z2⟩ := z
    simp only [lt3] at *
    repeat' split at h1
    all_goals repeat' split at h2
    all_goals repeat' split
    all_goals simp only [decide_eq_false_iff_not] at *
    all_goals omega

/-- What the library's sort makes of a list. -/
def sortL (xs : List (Int × Int × Int)) : List (Int × Int × Int) := if 2 ≤ xs.length then (Go.Sort.pdq lt3 xs.toArray 0 xs.length (Lib.bitLen xs.length) true true).toList else xs
theorem sortL_spec (xs : List (Int × Int × Int)) : (sortL xs).Perm xs ∧ (sortL xs).Pairwise fun x y => lt3 y x = false := by
  unfold sortL
  split
  · rename_i h2
    have h := Go.Sort.pdq_sorts lt3 swo_lt3 xs.toArray 0 xs.length (Lib.bitLen xs.length) true true (Nat.zero_le _) (by simp) (Or.inl rfl)
    obtain ⟨⟨h1, _, h3⟩, h4⟩ := h
    have hsz : (Go.Sort.pdq lt3 xs.toArray 0 xs.length (Lib.bitLen xs.length) true true).size = xs.length := by simpa using h1
    obtain ⟨X, hX⟩ : ∃ X, X = Go.Sort.pdq lt3 xs.toArray 0 xs.length (Lib.bitLen xs.length) true true := ⟨_, rfl⟩
    rw [← hX] at h3 h4 hsz ⊢
    refine ⟨?_, ?_⟩
    · have e : X.extract 0 xs.length = X := by rw [← hsz]; simp
      rw [e] at h3
      simpa using h3
    · rw [List.pairwise_iff_getElem]
      intro i j hi hj hij
      have hj' : j < xs.length := by simpa [hsz] using hj
      have := h4 i j (Nat.zero_le _) hij hj'
      rw [getElem!_pos _ i (by omega), getElem!_pos _ j (by omega)] at this
      simpa using this
  · rename_i h2
    refine ⟨.refl _, ?_⟩
    match xs, h2 with
    | [], _ => simp
    | [x], _ => simp
    | _ :: _ :: _, h => simp at h
theorem sortL_len (xs : List (Int × Int × Int)) : (sortL xs).length = xs.length := (sortL_spec xs).1.length_eq

noncomputable def svT : TypeInfo := (Tryz.prog.info? 50).get (by kernel_rfl)
noncomputable def svE : TypeInfo := (Tryz.prog.info? 31).get (by kernel_rfl)
theorem svK (n : Nat) : Lib.swapperK n svE 17 = if n = 0 then 1 else if n = 1 then 2 else 9 := by
  have a : svE.hasPointers = false := by kernel_rfl
  have b : svE.bytes = 24 := by kernel_rfl
  unfold Lib.swapperK
  rw [a, b]
  by_cases h0 : n = 0
  · simp [h0]
  · by_cases h1 : n = 1
    · simp [h1]
    · simp [h0, h1]

/-- A row of three cells an element, in the shelf's words and in ours. -/
theorem Own.holds {T : TypeId} {w : World} {base g c : Nat} {xs : List (Int × Int × Int)} (h : Own e3 T w base (.slice (some ⟨g, 0, none⟩) xs.length c) xs) (hp : 0 < xs.length) :
    ∃ cs, w.heap[g]? = some (.cells cs T (0, 0)) ∧ base ≤ g ∧ xs.length ≤ c ∧ c ≤ maxLen ∧ c * 3 ≤ cs.size ∧ HoldsK e3.enc 3 w g 0 xs.toArray := by
  rcases h.out.2 with ⟨he, h0⟩ | ⟨g', c', cs, he, hg, hh, hnc, hcm, hcs, ht⟩
  · omega
  · injection he with h1 _ h3
    obtain rfl : g = g' := by injection h1 with h1; injection h1
    subst h3
    refine ⟨cs, hh, hg, hnc, hcm, hcs, fun j hj => ?_⟩
    have hj' : j < xs.length * 3 := by simpa using hj
    have hx : j / 3 < xs.length := by omega
    have hm : j % 3 < (e3.enc xs[j / 3]).length := by rw [e3.len]; exact Nat.mod_lt _ (by omega)
    have h4 := e3.flat_get xs (j / 3) xs[j / 3] (List.getElem?_eq_getElem hx) (j % 3) _ (List.getElem?_eq_getElem hm)
    rw [show j / 3 * e3.sz + j % 3 = j from by show j / 3 * 3 + j % 3 = j; omega, ← ht, List.getElem?_take] at h4
    split at h4
    · refine ⟨?_, by simp [World.frozen?, hh]⟩
      rw [get_flatK _ _ _ _ (by simpa using hj'), Nat.zero_add]
      simp only [World.cell?, hh]
      have e : (xs.toArray)[j / 3]! = xs[j / 3] := by simp [hx]
      rw [e, getElem!_pos (e3.enc xs[j / 3]) (j % 3) hm]
      simpa using h4
    · cases h4
/-- .. back. -/
theorem Own.of_holds {T : TypeId} {w : World} {base g c : Nat} {cs : Array Value} {ys : List (Int × Int × Int)} (hh : w.heap[g]? = some (.cells cs T (0, 0))) (hg : base ≤ g) (hnc : ys.length ≤ c) (hcm : c ≤ maxLen) (hcs : c * 3 ≤ cs.size)
    (hH : HoldsK e3.enc 3 w g 0 ys.toArray) : Own e3 T w base (.slice (some ⟨g, 0, none⟩) ys.length c) ys := by
  refine ⟨⟨by rw [e3.flat_len], .inr ⟨g, c, cs, rfl, hg, hh, hnc, hcm, hcs, ?_⟩⟩⟩
  apply List.ext_getElem?
  intro j
  rw [List.getElem?_take]
  have hfl : (e3.flat ys).length = ys.length * 3 := e3.flat_len ys
  split
  · rename_i hj
    have hj' : j < ys.length * 3 := hj
    have hx : j / 3 < ys.length := by omega
    have hm : j % 3 < (e3.enc ys[j / 3]).length := by rw [e3.len]; exact Nat.mod_lt _ (by omega)
    have h4 := e3.flat_get ys (j / 3) ys[j / 3] (List.getElem?_eq_getElem hx) (j % 3) _ (List.getElem?_eq_getElem hm)
    rw [show j / 3 * e3.sz + j % 3 = j from by show j / 3 * 3 + j % 3 = j; omega] at h4
    rw [h4]
    have h5 := (hH j (by simpa using hj')).1
    rw [get_flatK _ _ _ _ (by simpa using hj'), Nat.zero_add] at h5
    simp only [World.cell?, hh] at h5
    have e : (ys.toArray)[j / 3]! = ys[j / 3] := by simp [hx]
    rw [e, getElem!_pos (e3.enc ys[j / 3]) (j % 3) hm] at h5
    simpa using h5
  · rename_i hj
    rw [List.getElem?_eq_none]
    have : ¬ j < ys.length * 3 := hj
    omega

theorem up_grow (w : World) (os : Array Obj) : Up w (grow w os) := ⟨⟨rfl, rfl, rfl, by simp [grow], fun k hk => heap_grow_old w os hk⟩⟩

/-- sort.Slice(out, func(i, j int) bool { return before(out[i][:], out[j][:]) }). -/
theorem sort_ex {A : Option Addr} {c base Bs : Nat} {w : World} {xs : List (Int × Int × Int)} (hO : Own e3 31 w base (.slice A xs.length c) xs) (hB : Blk w Bs [.slice A xs.length c] 50) (hne : ∀ k, blk (.slice A xs.length c) = some k → k ≠ Bs) (hsz : xs.length ≤ 1000000) :
    Calls Tryz.prog 70 #[.iface 50 (.slice A xs.length c), .func (.func 71) #[] #[.pointer (some ⟨Bs, 0, none⟩)]] w fun e w' =>
      e = .returned (.tuple #[]) ∧ Own e3 31 w' base (.slice A (sortL xs).length c) (sortL xs) ∧ Aside0 (xs.length = (sortL xs).length) ∧ Grow (.slice A xs.length c) w w' := by
  have hk : ∀ w, (Extern.Rtype.kind 31).run Tryz.prog w = .ok 17 w := fun _ => by kernel_rfl
  by_cases h2 : 2 ≤ xs.length
  · obtain ⟨g, rfl⟩ : ∃ g, A = some ⟨g, 0, none⟩ := by
      rcases hO.out.2 with ⟨_, h0⟩ | ⟨g, c', cs, he, _⟩
      · omega
      · injection he with h1; exact ⟨g, h1⟩
    obtain ⟨cs, hh, hg, hnc, hcm, hcs, hH⟩ := hO.holds (by omega)
    have hgl : g < w.heap.size := (Array.getElem?_eq_some_iff.1 hh).1
    have hBg : Bs ≠ g := fun e => hne g rfl e.symm
    have hless : LessReadsK Tryz.prog 71 #[.pointer (some ⟨Bs, 0, none⟩)] e3.enc 3 lt3 g 0 xs.toArray.size w := by
      intro m os dk hs i j hi hj
      have e : sortWorldK e3.enc 3 w g 0 m dk os = putRowK e3.enc 3 (grow (Go.Sort.ahead w m) os) g 0 dk := by
        unfold sortWorldK; rw [putRowK_grow _ _ (Go.Sort.ahead w m) _ g 0 _ hgl]
      have hHg : HoldsK e3.enc 3 (grow (Go.Sort.ahead w m) os) g 0 xs.toArray := holdsK_grow _ _ _ _ g 0 _ hgl (holdsK_ahead _ _ _ _ _ _ _ hH)
      have hc := holdsK_putRowK _ _ _ g 0 xs.toArray dk hHg hs
      refine less_ex g 0 c Bs xs.length _ (fun t => dk[t]!) ?_ (fun t ht => ?_) (fun t ht => ?_) (fun t ht => ?_) i j (by simpa using hi) (by simpa using hj)
      · rw [e, cell?_putRowK_other _ _ _ g 0 dk _ (by exact hBg), cell?_grow _ _ _ (by exact hB.lt)]; exact hB.cell (o := 0) rfl
      · rw [e]; exact (hc.cell (i := t) (c := 0) (by rw [hs]; simpa using ht) (by omega)).1
      · rw [e]; exact (hc.cell (i := t) (c := 1) (by rw [hs]; simpa using ht) (by omega)).1
      · rw [e]; exact (hc.cell (i := t) (c := 2) (by rw [hs]; simpa using ht) (by omega)).1
    have h := Any.sort_Slice_cells_eq sl6 50 31 svT svE (by kernel_rfl) (by kernel_rfl) (by kernel_rfl) (by kernel_rfl) 17 hk e3.enc 3 e3.len (by kernel_rfl) (fun _ => by kernel_rfl) e3.one lt3 swo_lt3 71 #[.pointer (some ⟨Bs, 0, none⟩)]
      (enters_of Tryz.func71 (by kernel_rfl) rfl) g 0 c xs.toArray (by simpa using h2) (by simp; omega) 127 (by rw [svK, if_neg (by rw [List.size_toArray]; omega), if_neg (by rw [List.size_toArray]; omega)]; kernel_rfl) false
      (fun args W => run_callFunc_extern Tryz.func127 (by kernel_rfl) (by kernel_rfl) (by kernel_rfl) (e := Extern.ReflectliteSwapper.swap false) (by kernel_rfl) args W) w hless hH hgl
    refine h.mono ?_
    rintro e w' ⟨rfl, n, os, rfl⟩
    have hl := sortL_len xs
    have hs : (sortL xs).toArray = Go.Sort.pdq lt3 xs.toArray 0 xs.toArray.size (Lib.bitLen xs.toArray.size) true true := by simp [sortL, h2]
    rw [← hs]
    have hHg : HoldsK e3.enc 3 (grow (Go.Sort.ahead w n) os) g 0 xs.toArray := holdsK_grow _ _ _ _ g 0 _ hgl (holdsK_ahead _ _ _ _ _ _ _ hH)
    have hc := holdsK_putRowK _ _ _ g 0 xs.toArray (sortL xs).toArray hHg (by simp [hl])
    rw [putRowK_grow _ _ (Go.Sort.ahead w n) _ g 0 _ hgl] at hc
    have hhg : (grow (putRowK e3.enc 3 (Go.Sort.ahead w n) g 0 (sortL xs).toArray) os).heap[g]? = some (.cells (putCells id 0 (flatK e3.enc 3 (sortL xs).toArray) cs) 31 (0, 0)) := by
      rw [heap_grow_old _ _ (by rw [size_putRowK]; exact hgl)]
      show (w.heap.modify g _)[g]? = _
      rw [Array.getElem?_modify, if_pos rfl, hh]
      rfl
    refine ⟨rfl, Own.of_holds hhg hg (by omega) hcm (by simpa [putCells] using hcs) hc, ⟨hl.symm⟩, ⟨rfl, rfl, rfl, ?_, fun k hk hne' => ?_⟩⟩
    · simp [grow, putRowK, putRow, mapBlock, Go.Sort.ahead]
    · rw [heap_grow_old _ _ (by rw [size_putRowK]; exact hk)]
      show (w.heap.modify g _)[k]? = _
      rw [Array.getElem?_modify, if_neg (fun e => hne' (by rw [e]; rfl))]
  · have hs : sortL xs = xs := by unfold sortL; rw [if_neg h2]
    have h := Any.sort_Slice_tiny sl6 50 31 svT svE (by kernel_rfl) (by kernel_rfl) (by kernel_rfl) (by kernel_rfl) 17 hk A xs.length c (by omega) (if xs.length = 0 then 119 else 120)
      (by rw [svK]; split; · kernel_rfl
          · rw [if_pos (by omega)]; kernel_rfl) (.func 71) #[] #[.pointer (some ⟨Bs, 0, none⟩)] w
    refine h.mono ?_
    rintro e w' ⟨rfl, os, rfl⟩
    rw [hs]
    exact ⟨rfl, hO.up (up_grow w os), ⟨rfl⟩, .up (up_grow w os)⟩
end Go.Proofs.YtccbmdpikalpfaaGreat
