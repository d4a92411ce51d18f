/- Plain laws: rows that are put in order, one after the other, and rows that are sorted in place. No program in sight. -/
import Derived.Test.YtbibgeoohpgaeaaL
namespace Go.Proofs.Ytbibgeoohpgaeaa
open Go Go.RowKit
set_option linter.unusedVariables false
set_option linter.unusedSimpArgs false
section
variable {α β : Type}
/-- One more, put from the right: 'r' is what lies ahead of it, the nearest first; 'post' what lies behind it. -/
def bub (lt : α → α → Bool) (x : α) : List α → List α → List α
  | [], post => x :: post
  | y :: r, post => if lt x y = true then bub lt x r (y :: post) else (y :: r).reverse ++ x :: post
def ins (lt : α → α → Bool) (x : α) (l : List α) : List α := bub lt x l.reverse []
def Srt (lt : α → α → Bool) (l : List α) : Prop := l.Pairwise fun a b => lt a b = true
structure Ordr (lt : α → α → Bool) (key : α → β) : Prop where
  irr : ∀ a, lt a a = false
  trans : ∀ a b c, lt a b = true → lt b c = true → lt a c = true
  tri : ∀ a b, key a ≠ key b → lt a b = true ∨ lt b a = true
theorem bub_mem {lt : α → α → Bool} {x z : α} : ∀ {r post : List α}, z ∈ bub lt x r post ↔ (z = x ∨ z ∈ r ∨ z ∈ post)
  | [], post => by simp [bub]
  | y :: r, post => by
    unfold bub
    split
    · rw [bub_mem]
      simp only [List.mem_cons]
      constructor
      · rintro (h | h | h | h) <;> simp [h]
      · rintro (h | (h | h) | h) <;> simp [h]
    · simp only [List.mem_append, List.mem_reverse, List.mem_cons]
      constructor
      · rintro ((h | h) | h | h) <;> simp [h]
      · rintro (h | (h | h) | h) <;> simp [h]
theorem bub_len {lt : α → α → Bool} {x : α} : ∀ {r post : List α}, (bub lt x r post).length = r.length + post.length + 1
  | [], post => by simp [bub]
  | y :: r, post => by
    unfold bub
    split
    · rw [bub_len]; simp only [List.length_cons]; omega
    · simp only [List.length_append, List.length_reverse, List.length_cons]; omega
theorem bub_srt {lt : α → α → Bool} {key : α → β} (o : Ordr lt key) {x : α} : ∀ {r post : List α}, Srt lt (r.reverse ++ post) → (∀ y ∈ post, lt x y = true) → (∀ y ∈ r, key x ≠ key y) → Srt lt (bub lt x r post)
  | [], post, h, hp, _ => by
    unfold bub
    exact List.pairwise_cons.2 ⟨hp, by simpa [Srt] using h⟩
  | y :: r, post, h, hp, hk => by
    have h0 : Srt lt (r.reverse ++ (y :: post)) := by simpa [List.reverse_cons, List.append_assoc] using h
    unfold bub
    split
    · rename_i hxy
      refine bub_srt o h0 (fun z hz => ?_) fun z hz => hk z (List.mem_cons_of_mem _ hz)
      rcases List.mem_cons.1 hz with rfl | hz
      · exact hxy
      · exact hp z hz
    · rename_i hxy
      have hyx : lt y x = true := (o.tri x y (hk y (List.mem_cons_self ..))).resolve_left hxy
      have h1 := List.pairwise_append.1 h
      refine List.pairwise_append.2 ⟨h1.1, List.pairwise_cons.2 ⟨hp, h1.2.1⟩, fun z hz t ht => ?_⟩
      rcases List.mem_cons.1 ht with rfl | ht
      · have h2 := List.pairwise_append.1 h0
        rw [List.mem_reverse] at hz
        rcases List.mem_cons.1 hz with rfl | hz
        · exact hyx
        · exact o.trans _ _ _ (h2.2.2 z (List.mem_reverse.2 hz) y (List.mem_cons_self ..)) hyx
      · exact h1.2.2 z hz t ht
theorem ins_mem {lt : α → α → Bool} {x z : α} {l : List α} : z ∈ ins lt x l ↔ (z = x ∨ z ∈ l) := by
  unfold ins
  rw [bub_mem]
  simp
theorem ins_len {lt : α → α → Bool} {x : α} {l : List α} : (ins lt x l).length = l.length + 1 := by
  unfold ins
  rw [bub_len]
  simp
theorem ins_srt {lt : α → α → Bool} {key : α → β} (o : Ordr lt key) {x : α} {l : List α} (h : Srt lt l) (hk : ∀ y ∈ l, key x ≠ key y) : Srt lt (ins lt x l) :=
  bub_srt o (by simpa using h) (by simp) (fun y hy => hk y (List.mem_reverse.1 hy))
theorem bub_congr {lt lt' : α → α → Bool} {x : α} : ∀ {r post : List α}, (∀ y ∈ r, lt x y = lt' x y) → bub lt x r post = bub lt' x r post
  | [], _, _ => rfl
  | y :: r, post, h => by
    unfold bub
    rw [h y (List.mem_cons_self ..), bub_congr fun z hz => h z (List.mem_cons_of_mem _ hz)]
theorem ins_congr {lt lt' : α → α → Bool} {x : α} {l : List α} (h : ∀ y ∈ l, lt x y = lt' x y) : ins lt x l = ins lt' x l := bub_congr fun y hy => h y (List.mem_reverse.1 hy)
/-- Two rows in order that bear the same are one row. -/
theorem srt_ext {lt : α → α → Bool} (irr : ∀ a, lt a a = false) (tr : ∀ a b c, lt a b = true → lt b c = true → lt a c = true) : ∀ {l l' : List α}, Srt lt l → Srt lt l' → (∀ z, z ∈ l ↔ z ∈ l') → l = l'
  | [], [], _, _, _ => rfl
  | [], y :: l', _, _, h => absurd ((h y).2 (List.mem_cons_self ..)) (by simp)
  | x :: l, [], _, _, h => absurd ((h x).1 (List.mem_cons_self ..)) (by simp)
  | x :: l, y :: l', h1, h2, h => by
    obtain ⟨a1, a2⟩ := List.pairwise_cons.1 h1
    obtain ⟨b1, b2⟩ := List.pairwise_cons.1 h2
    have e : x = y := by
      rcases List.mem_cons.1 ((h x).1 (List.mem_cons_self ..)) with e | hx
      · exact e
      · rcases List.mem_cons.1 ((h y).2 (List.mem_cons_self ..)) with e | hy
        · exact e.symm
        · have := tr _ _ _ (b1 x hx) (a1 y hy)
          rw [irr] at this
          cases this
    subst e
    refine congrArg (x :: ·) (srt_ext irr tr a2 b2 fun z => ⟨fun hz => ?_, fun hz => ?_⟩)
    · rcases List.mem_cons.1 ((h z).1 (List.mem_cons_of_mem _ hz)) with rfl | hz'
      · have := a1 z hz
        rw [irr] at this
        cases this
      · exact hz'
    · rcases List.mem_cons.1 ((h z).2 (List.mem_cons_of_mem _ hz)) with rfl | hz'
      · have := b1 z hz
        rw [irr] at this
        cases this
      · exact hz'
/-- All of a row, put one after the other. -/
def isort (lt : α → α → Bool) (L : List α) : List α := L.foldl (fun acc x => ins lt x acc) []
theorem fold_ins {lt : α → α → Bool} {key : α → β} (o : Ordr lt key) : ∀ (L acc : List α), Srt lt acc → L.Pairwise (fun a b => key a ≠ key b) → (∀ x ∈ L, ∀ y ∈ acc, key x ≠ key y) →
    Srt lt (L.foldl (fun acc x => ins lt x acc) acc) ∧ (∀ z, z ∈ L.foldl (fun acc x => ins lt x acc) acc ↔ (z ∈ L ∨ z ∈ acc)) ∧ (L.foldl (fun acc x => ins lt x acc) acc).length = L.length + acc.length
  | [], acc, h, _, _ => ⟨h, by simp, by simp⟩
  | x :: L, acc, h, hL, hd => by
    obtain ⟨h1, h2⟩ := List.pairwise_cons.1 hL
    obtain ⟨a1, a2, a3⟩ := fold_ins o L (ins lt x acc) (ins_srt o h fun y hy => hd x (List.mem_cons_self ..) y hy) h2 (fun z hz y hy => by
      rcases ins_mem.1 hy with rfl | hy
      · exact Ne.symm (h1 z hz)
      · exact hd z (List.mem_cons_of_mem _ hz) y hy)
    refine ⟨a1, fun z => ?_, ?_⟩
    · rw [List.foldl_cons, a2, ins_mem, List.mem_cons]
      constructor
      · rintro (h | h | h) <;> simp [h]
      · rintro ((h | h) | h) <;> simp [h]
    · rw [List.foldl_cons, a3, ins_len, List.length_cons]; omega
theorem isort_srt {lt : α → α → Bool} {key : α → β} (o : Ordr lt key) {L : List α} (h : L.Pairwise fun a b => key a ≠ key b) : Srt lt (isort lt L) := (fold_ins o L [] List.Pairwise.nil h (by simp)).1
theorem isort_mem {lt : α → α → Bool} {key : α → β} (o : Ordr lt key) {L : List α} (h : L.Pairwise fun a b => key a ≠ key b) (z : α) : z ∈ isort lt L ↔ z ∈ L := by
  have := (fold_ins o L [] List.Pairwise.nil h (by simp)).2.1 z
  unfold isort
  simpa using this
theorem fold_ins_len {lt : α → α → Bool} : ∀ (L acc : List α), (L.foldl (fun acc x => ins lt x acc) acc).length = L.length + acc.length
  | [], acc => by simp
  | x :: L, acc => by rw [List.foldl_cons, fold_ins_len, ins_len, List.length_cons]; omega
theorem isort_len {lt : α → α → Bool} {L : List α} : (isort lt L).length = L.length := by
  unfold isort
  rw [fold_ins_len]
  simp
theorem isort_concat {lt : α → α → Bool} {L : List α} {x : α} : isort lt (L ++ [x]) = ins lt x (isort lt L) := by simp [isort, List.foldl_append]
end
end Go.Proofs.Ytbibgeoohpgaeaa
