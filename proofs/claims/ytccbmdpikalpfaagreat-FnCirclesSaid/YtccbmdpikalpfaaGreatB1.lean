/- Two lines in order: the program's 'before' and the closure that sort.Slice asks, in the world as it is. -/
import Derived.Test.YtccbmdpikalpfaaGreatProg
import Derived.Test.YtccbmdpikalpfaaGreatK
import Derived.WalkKit
import Derived.KernelRfl
import Derived.BigQuiet
import Derived.Deep.QuietTactic
import Derived.Shelf.SlSortFuncK.WholeK
namespace Go.Proofs.YtccbmdpikalpfaaGreat
open Go Go.RowKit
set_option linter.unusedVariables false
set_option linter.unusedSimpArgs false

def lt3 (x y : Int × Int × Int) : Bool := if x.1 = y.1 then (if x.2.1 = y.2.1 then decide (x.2.2 < y.2.2) else decide (x.2.1 < y.2.1)) else decide (x.1 < y.1)

set_option maxHeartbeats 4000000 in
theorem before_ex (blk o p : Nat) (x y : Int × Int × Int) (W : World)
    (a0 : W.cell? ⟨blk, o, none⟩ = some (.int .i64 x.1)) (a1 : W.cell? ⟨blk, o + 1, none⟩ = some (.int .i64 x.2.1)) (a2 : W.cell? ⟨blk, o + 2, none⟩ = some (.int .i64 x.2.2))
    (b0 : W.cell? ⟨blk, p, none⟩ = some (.int .i64 y.1)) (b1 : W.cell? ⟨blk, p + 1, none⟩ = some (.int .i64 y.2.1)) (b2 : W.cell? ⟨blk, p + 2, none⟩ = some (.int .i64 y.2.2)) :
    Calls Tryz.prog 72 #[.slice (some ⟨blk, o, none⟩) 3 3, .slice (some ⟨blk, p, none⟩) 3 3] W fun e w' => e = .returned (.bool (lt3 x y)) ∧ ∃ q, w' = W.drewN q := by
  obtain ⟨x0, x1, x2⟩ := x
  obtain ⟨y0, y1, y2⟩ := y
  dsimp only at a0 a1 a2 b0 b1 b2
  go_enter Tryz.func72, Tryz.ntmps72
  go_wp2
  refine wp_loop_rounds 5 ?_
  refine rounds_k (fun K1 hK1 => ?_)
  go_wp2
  go_quiet (fail)
  go_wp2
  · go_quiet (fail)
    go_wp2
    go_ret
    exact ⟨by simp [lt3, (by simpa using (by assumption : (x0 != y0) = true) : ¬ x0 = y0)], _, by simp only [World.drewN_drewN]; rfl⟩
  refine rounds_k (fun K2 hK2 => ?_)
  go_wp2
  go_quiet (fail)
  go_wp2
  · go_quiet (fail)
    go_wp2
    go_ret
    exact ⟨by simp [lt3, (by simpa using (by assumption : (x0 != y0) = false) : x0 = y0), (by simpa using (by assumption : (x1 != y1) = true) : ¬ x1 = y1)], _, by simp only [World.drewN_drewN]; rfl⟩
  refine rounds_k (fun K3 hK3 => ?_)
  go_wp2
  go_quiet (fail)
  go_wp2
  · go_quiet (fail)
    go_wp2
    go_ret
    exact ⟨by simp [lt3, (by simpa using (by assumption : (x0 != y0) = false) : x0 = y0), (by simpa using (by assumption : (x1 != y1) = false) : x1 = y1), (by simpa using (by assumption : (x2 != y2) = true) : ¬ x2 = y2)], _, by simp only [World.drewN_drewN]; rfl⟩
  refine rounds_k (fun K4 hK4 => ?_)
  go_wp2
  go_ret
  exact ⟨by simp [lt3, (by simpa using (by assumption : (x0 != y0) = false) : x0 = y0), (by simpa using (by assumption : (x1 != y1) = false) : x1 = y1), (by simpa using (by assumption : (x2 != y2) = false) : x2 = y2)], _, rfl⟩

set_option maxHeartbeats 4000000 in
theorem less_ex (blk off c Bs size : Nat) (W : World) (G : Nat → Int × Int × Int) (hs : W.cell? ⟨Bs, 0, none⟩ = some (.slice (some ⟨blk, off, none⟩) size c))
    (h0 : ∀ t, t < size → W.cell? ⟨blk, off + t * 3, none⟩ = some (.int .i64 (G t).1)) (h1 : ∀ t, t < size → W.cell? ⟨blk, off + t * 3 + 1, none⟩ = some (.int .i64 (G t).2.1)) (h2 : ∀ t, t < size → W.cell? ⟨blk, off + t * 3 + 2, none⟩ = some (.int .i64 (G t).2.2))
    (i j : Nat) (hi : i < size) (hj : j < size) :
    Calls Tryz.prog 71 #[.int .i64 i, .int .i64 j, .pointer (some ⟨Bs, 0, none⟩)] W fun e w' => e = .returned (.bool (lt3 (G i) (G j))) ∧ ∃ q, w' = W.drewN q := by
  have c := fun n => before_ex blk (off + i * 3) (off + j * 3) (G i) (G j) (W.drewN n) (h0 i hi) (h1 i hi) (h2 i hi) (h0 j hj) (h1 j hj) (h2 j hj)
  replace c := Aside0.mk c
  clear h0 h1 h2
  go_enter Tryz.func71, Tryz.ntmps71
  go_wp2
  go_quiet (first | (go_at_call 72; exact Calls.quiet_of (c.out _)))
  go_wp2
  go_ret
  exact ⟨rfl, nq, rfl⟩
end Go.Proofs.YtccbmdpikalpfaaGreat
