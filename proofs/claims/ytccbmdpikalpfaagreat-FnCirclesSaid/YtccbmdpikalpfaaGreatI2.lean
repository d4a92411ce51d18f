/- Plain laws of the comparison, the marking and the reading again of a row of points. -/
import Derived.Test.YtccbmdpikalpfaaGreatM6
namespace Go.Proofs.YtccbmdpikalpfaaGreat
open Go Go.RowKit
set_option linter.unusedVariables false
set_option linter.unusedSimpArgs false
def mkP (n : Nat) : List (Int × Int) := (List.range n).map fun (i : Nat) => (((1 + 2 * i : Nat) : Int), ((1 + 2 * i + 1 : Nat) : Int))
theorem mkP_len {n : Nat} : (mkP n).length = n := by simp [mkP]
theorem mkP_succ {n : Nat} : mkP (n + 1) = mkP n ++ [(((1 + 2 * n : Nat) : Int), ((1 + 2 * n + 1 : Nat) : Int))] := by simp [mkP, List.range_succ]
theorem mkP_get {n i : Nat} (h : i < n) : (mkP n)[i]? = some (((1 + 2 * i : Nat) : Int), ((1 + 2 * i + 1 : Nat) : Int)) := by simp [mkP, h]
end Go.Proofs.YtccbmdpikalpfaaGreat
