/- Plain laws of the comparison, the marking and the reading again of a row of numbers. -/
import Derived.Test.YtccbmdpikalpfaaP1
namespace Go.Proofs.Ytccbmdpikalpfaa
open Go Go.RowKit
set_option linter.unusedVariables false
set_option linter.unusedSimpArgs false
/-- The marks, from a number on. -/
def mksF (s n : Nat) : List Int := (List.range n).map fun (i : Nat) => ((s + i : Nat) : Int)
theorem mksF_len {s n : Nat} : (mksF s n).length = n := by simp [mksF]
theorem mksF_succ {s n : Nat} : mksF s (n + 1) = mksF s n ++ [((s + n : Nat) : Int)] := by simp [mksF, List.range_succ]
theorem mksF_get {s n i : Nat} (h : i < n) : (mksF s n)[i]? = some ((s + i : Nat) : Int) := by simp [mksF, h]
def mks (n : Nat) : List Int := mksF 1 n
end Go.Proofs.Ytccbmdpikalpfaa
