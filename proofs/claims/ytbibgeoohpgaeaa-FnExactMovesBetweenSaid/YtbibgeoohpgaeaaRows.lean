/-
  No cell of these rows narrows 'for every input' (looked for: loops, veiled, ifaces, maps, wideKeys, modest, calm, conditions, laid).
  DERIVED. THE GIVEN ROWS OF THIS SEAT. 10 by the template 'for every input the law returns true; each argument reads behind the call as it read before'; 0 by the template 'total and deterministic' (their statements: YtbibgeoohpgaeaaTotals.lean).
  GIVEN WITH THE SEED: the statements are not yours to turn. If you find one false, say at which input.
  Laid BY PROGRAM, IN A SANDBOX (cutbox-rows.mjs): the forced cells as the released guide's own fill.sh prints them over the translation 93f17348837a4046… (all of the seat's roots in one cut). By AI agents, Wed Nov 11 2026. No macro, syntax, notation, axiom, sorry.
-/
import Derived.Test.YtbibgeoohpgaeaaChecked
import GoSem.Claim
import GoSem.ClaimJoined
import GoSem.ClaimMapViews
import Derived.JoinedTies
import Derived.KernelRfl
namespace Go.Proofs.Ytbibgeoohpgaeaa
/- THE CELL 'sum', in the pinned program and in every row, IS THE sha256 OF THE DUMP (.gsa) THAT YtbibgeoohpgaeaaProg.lean LOADS. Nothing in Lean hashes anything: it is a label: what it is worth is what the hold of that sum in a sandbox is worth. -/
noncomputable def Try.pinned : Pinned := { name := "ytbibgeoohpgaeaa", sum := "93f17348837a4046c407e147bc94f1e7cfce2bb97dfdb92c50fde47afde04b7a", checked := Try.checked }
namespace Rows
def none {H : Type} : Left H := { results := [], args := [] }

/-- 'laws.FnExactMovePoint': WHATEVER THE INPUT: true; the input reads as it did. -/
def fnExactMovePointSpec : ChangeSpec := { name := "fnExactMovePoint", fn := fun _ => fun
  | [d1, d2, d3] => { results := [.lit (.bool true)], args := [d1, d2, d3] }
  | _ => none }
def fnExactMovePointRow : OpenClaim := { program := "ytbibgeoohpgaeaa", sum := "93f17348837a4046c407e147bc94f1e7cfce2bb97dfdb92c50fde47afde04b7a", func := "loop.example/g01370/laws.FnExactMovePoint", spec := "fnExactMovePoint", unfollowed := true, recurses := true, apart := false }
def FnExactMovePointSaid : Prop := fnExactMovePointRow.holds Try.pinned (OpenSpec.ofChange fnExactMovePointSpec)

/-- ITS FALSE NEIGHBOUR: 'it returns false'. Refute it at one input. -/
def fnExactMovePointWrong : ChangeSpec := { name := "fnExactMovePoint", fn := fun _ => fun
  | [d1, d2, d3] => { results := [.lit (.bool false)], args := [d1, d2, d3] }
  | _ => none }
def FnExactMovePointWrongFalsely : Prop := fnExactMovePointRow.holds Try.pinned (OpenSpec.ofChange fnExactMovePointWrong)

/-- 'laws.FnExactIsMove': WHATEVER THE INPUT: true; the input reads as it did. -/
def fnExactIsMoveSpec : ChangeSpec := { name := "fnExactIsMove", fn := fun _ => fun
  | [d1, d2, d3] => { results := [.lit (.bool true)], args := [d1, d2, d3] }
  | _ => none }
def fnExactIsMoveRow : OpenClaim := { program := "ytbibgeoohpgaeaa", sum := "93f17348837a4046c407e147bc94f1e7cfce2bb97dfdb92c50fde47afde04b7a", func := "loop.example/g01370/laws.FnExactIsMove", spec := "fnExactIsMove", unfollowed := true, recurses := true, apart := false }
def FnExactIsMoveSaid : Prop := fnExactIsMoveRow.holds Try.pinned (OpenSpec.ofChange fnExactIsMoveSpec)

/-- ITS FALSE NEIGHBOUR: 'it returns false'. Refute it at one input. -/
def fnExactIsMoveWrong : ChangeSpec := { name := "fnExactIsMove", fn := fun _ => fun
  | [d1, d2, d3] => { results := [.lit (.bool false)], args := [d1, d2, d3] }
  | _ => none }
def FnExactIsMoveWrongFalsely : Prop := fnExactIsMoveRow.holds Try.pinned (OpenSpec.ofChange fnExactIsMoveWrong)

/-- 'laws.FnExactProductOfMoves': WHATEVER THE INPUT: true; the input reads as it did. -/
def fnExactProductOfMovesSpec : ChangeSpec := { name := "fnExactProductOfMoves", fn := fun _ => fun
  | [d1, d2, d3] => { results := [.lit (.bool true)], args := [d1, d2, d3] }
  | _ => none }
def fnExactProductOfMovesRow : OpenClaim := { program := "ytbibgeoohpgaeaa", sum := "93f17348837a4046c407e147bc94f1e7cfce2bb97dfdb92c50fde47afde04b7a", func := "loop.example/g01370/laws.FnExactProductOfMoves", spec := "fnExactProductOfMoves", unfollowed := true, recurses := true, apart := false }
def FnExactProductOfMovesSaid : Prop := fnExactProductOfMovesRow.holds Try.pinned (OpenSpec.ofChange fnExactProductOfMovesSpec)

/-- ITS FALSE NEIGHBOUR: 'it returns false'. Refute it at one input. -/
def fnExactProductOfMovesWrong : ChangeSpec := { name := "fnExactProductOfMoves", fn := fun _ => fun
  | [d1, d2, d3] => { results := [.lit (.bool false)], args := [d1, d2, d3] }
  | _ => none }
def FnExactProductOfMovesWrongFalsely : Prop := fnExactProductOfMovesRow.holds Try.pinned (OpenSpec.ofChange fnExactProductOfMovesWrong)

/-- 'laws.FnExactFixedPoints': WHATEVER THE INPUT: true; the input reads as it did. -/
def fnExactFixedPointsSpec : ChangeSpec := { name := "fnExactFixedPoints", fn := fun _ => fun
  | [d1, d2] => { results := [.lit (.bool true)], args := [d1, d2] }
  | _ => none }
def fnExactFixedPointsRow : OpenClaim := { program := "ytbibgeoohpgaeaa", sum := "93f17348837a4046c407e147bc94f1e7cfce2bb97dfdb92c50fde47afde04b7a", func := "loop.example/g01370/laws.FnExactFixedPoints", spec := "fnExactFixedPoints", unfollowed := true, recurses := true, apart := false }
def FnExactFixedPointsSaid : Prop := fnExactFixedPointsRow.holds Try.pinned (OpenSpec.ofChange fnExactFixedPointsSpec)

/-- ITS FALSE NEIGHBOUR: 'it returns false'. Refute it at one input. -/
def fnExactFixedPointsWrong : ChangeSpec := { name := "fnExactFixedPoints", fn := fun _ => fun
  | [d1, d2] => { results := [.lit (.bool false)], args := [d1, d2] }
  | _ => none }
def FnExactFixedPointsWrongFalsely : Prop := fnExactFixedPointsRow.holds Try.pinned (OpenSpec.ofChange fnExactFixedPointsWrong)

/-- 'laws.FnExactInverseMove': WHATEVER THE INPUT: true; the input reads as it did. -/
def fnExactInverseMoveSpec : ChangeSpec := { name := "fnExactInverseMove", fn := fun _ => fun
  | [d1, d2, d3] => { results := [.lit (.bool true)], args := [d1, d2, d3] }
  | _ => none }
def fnExactInverseMoveRow : OpenClaim := { program := "ytbibgeoohpgaeaa", sum := "93f17348837a4046c407e147bc94f1e7cfce2bb97dfdb92c50fde47afde04b7a", func := "loop.example/g01370/laws.FnExactInverseMove", spec := "fnExactInverseMove", unfollowed := true, recurses := true, apart := false }
def FnExactInverseMoveSaid : Prop := fnExactInverseMoveRow.holds Try.pinned (OpenSpec.ofChange fnExactInverseMoveSpec)

/-- ITS FALSE NEIGHBOUR: 'it returns false'. Refute it at one input. -/
def fnExactInverseMoveWrong : ChangeSpec := { name := "fnExactInverseMove", fn := fun _ => fun
  | [d1, d2, d3] => { results := [.lit (.bool false)], args := [d1, d2, d3] }
  | _ => none }
def FnExactInverseMoveWrongFalsely : Prop := fnExactInverseMoveRow.holds Try.pinned (OpenSpec.ofChange fnExactInverseMoveWrong)

/-- 'laws.FnExactCountTurns': WHATEVER THE INPUT: true; the input reads as it did. -/
def fnExactCountTurnsSpec : ChangeSpec := { name := "fnExactCountTurns", fn := fun _ => fun
  | [d1, d2] => { results := [.lit (.bool true)], args := [d1, d2] }
  | _ => none }
def fnExactCountTurnsRow : OpenClaim := { program := "ytbibgeoohpgaeaa", sum := "93f17348837a4046c407e147bc94f1e7cfce2bb97dfdb92c50fde47afde04b7a", func := "loop.example/g01370/laws.FnExactCountTurns", spec := "fnExactCountTurns", unfollowed := true, recurses := true, apart := false }
def FnExactCountTurnsSaid : Prop := fnExactCountTurnsRow.holds Try.pinned (OpenSpec.ofChange fnExactCountTurnsSpec)

/-- ITS FALSE NEIGHBOUR: 'it returns false'. Refute it at one input. -/
def fnExactCountTurnsWrong : ChangeSpec := { name := "fnExactCountTurns", fn := fun _ => fun
  | [d1, d2] => { results := [.lit (.bool false)], args := [d1, d2] }
  | _ => none }
def FnExactCountTurnsWrongFalsely : Prop := fnExactCountTurnsRow.holds Try.pinned (OpenSpec.ofChange fnExactCountTurnsWrong)

/-- 'laws.FnExactReflectionIn': WHATEVER THE INPUT: true; the input reads as it did. -/
def fnExactReflectionInSpec : ChangeSpec := { name := "fnExactReflectionIn", fn := fun _ => fun
  | [d1, d2, d3] => { results := [.lit (.bool true)], args := [d1, d2, d3] }
  | _ => none }
def fnExactReflectionInRow : OpenClaim := { program := "ytbibgeoohpgaeaa", sum := "93f17348837a4046c407e147bc94f1e7cfce2bb97dfdb92c50fde47afde04b7a", func := "loop.example/g01370/laws.FnExactReflectionIn", spec := "fnExactReflectionIn", unfollowed := true, recurses := true, apart := false }
def FnExactReflectionInSaid : Prop := fnExactReflectionInRow.holds Try.pinned (OpenSpec.ofChange fnExactReflectionInSpec)

/-- ITS FALSE NEIGHBOUR: 'it returns false'. Refute it at one input. -/
def fnExactReflectionInWrong : ChangeSpec := { name := "fnExactReflectionIn", fn := fun _ => fun
  | [d1, d2, d3] => { results := [.lit (.bool false)], args := [d1, d2, d3] }
  | _ => none }
def FnExactReflectionInWrongFalsely : Prop := fnExactReflectionInRow.holds Try.pinned (OpenSpec.ofChange fnExactReflectionInWrong)

/-- 'laws.FnExactMoveLine': WHATEVER THE INPUT: true; the input reads as it did. -/
def fnExactMoveLineSpec : ChangeSpec := { name := "fnExactMoveLine", fn := fun _ => fun
  | [d1, d2, d3, d4] => { results := [.lit (.bool true)], args := [d1, d2, d3, d4] }
  | _ => none }
def fnExactMoveLineRow : OpenClaim := { program := "ytbibgeoohpgaeaa", sum := "93f17348837a4046c407e147bc94f1e7cfce2bb97dfdb92c50fde47afde04b7a", func := "loop.example/g01370/laws.FnExactMoveLine", spec := "fnExactMoveLine", unfollowed := true, recurses := true, apart := false }
def FnExactMoveLineSaid : Prop := fnExactMoveLineRow.holds Try.pinned (OpenSpec.ofChange fnExactMoveLineSpec)

/-- ITS FALSE NEIGHBOUR: 'it returns false'. Refute it at one input. -/
def fnExactMoveLineWrong : ChangeSpec := { name := "fnExactMoveLine", fn := fun _ => fun
  | [d1, d2, d3, d4] => { results := [.lit (.bool false)], args := [d1, d2, d3, d4] }
  | _ => none }
def FnExactMoveLineWrongFalsely : Prop := fnExactMoveLineRow.holds Try.pinned (OpenSpec.ofChange fnExactMoveLineWrong)

/-- 'laws.FnExactTurnsAbout': WHATEVER THE INPUT: true; the input reads as it did. -/
def fnExactTurnsAboutSpec : ChangeSpec := { name := "fnExactTurnsAbout", fn := fun _ => fun
  | [d1, d2, d3] => { results := [.lit (.bool true)], args := [d1, d2, d3] }
  | _ => none }
def fnExactTurnsAboutRow : OpenClaim := { program := "ytbibgeoohpgaeaa", sum := "93f17348837a4046c407e147bc94f1e7cfce2bb97dfdb92c50fde47afde04b7a", func := "loop.example/g01370/laws.FnExactTurnsAbout", spec := "fnExactTurnsAbout", unfollowed := true, recurses := true, apart := false }
def FnExactTurnsAboutSaid : Prop := fnExactTurnsAboutRow.holds Try.pinned (OpenSpec.ofChange fnExactTurnsAboutSpec)

/-- ITS FALSE NEIGHBOUR: 'it returns false'. Refute it at one input. -/
def fnExactTurnsAboutWrong : ChangeSpec := { name := "fnExactTurnsAbout", fn := fun _ => fun
  | [d1, d2, d3] => { results := [.lit (.bool false)], args := [d1, d2, d3] }
  | _ => none }
def FnExactTurnsAboutWrongFalsely : Prop := fnExactTurnsAboutRow.holds Try.pinned (OpenSpec.ofChange fnExactTurnsAboutWrong)

/-- 'laws.FnExactMovesBetween': WHATEVER THE INPUT: true; the input reads as it did. -/
def fnExactMovesBetweenSpec : ChangeSpec := { name := "fnExactMovesBetween", fn := fun _ => fun
  | [d1, d2, d3, d4, d5, d6] => { results := [.lit (.bool true)], args := [d1, d2, d3, d4, d5, d6] }
  | _ => none }
def fnExactMovesBetweenRow : OpenClaim := { program := "ytbibgeoohpgaeaa", sum := "93f17348837a4046c407e147bc94f1e7cfce2bb97dfdb92c50fde47afde04b7a", func := "loop.example/g01370/laws.FnExactMovesBetween", spec := "fnExactMovesBetween", unfollowed := true, recurses := true, apart := false }
def FnExactMovesBetweenSaid : Prop := fnExactMovesBetweenRow.holds Try.pinned (OpenSpec.ofChange fnExactMovesBetweenSpec)

/-- ITS FALSE NEIGHBOUR: 'it returns false'. Refute it at one input. -/
def fnExactMovesBetweenWrong : ChangeSpec := { name := "fnExactMovesBetween", fn := fun _ => fun
  | [d1, d2, d3, d4, d5, d6] => { results := [.lit (.bool false)], args := [d1, d2, d3, d4, d5, d6] }
  | _ => none }
def FnExactMovesBetweenWrongFalsely : Prop := fnExactMovesBetweenRow.holds Try.pinned (OpenSpec.ofChange fnExactMovesBetweenWrong)

/- THE SECOND FORM. 'bulk': how many values and letters a reading holds, each counted each time it is reached (what is shared counts as often as it is met; a slice's spare places count too). A statement '..UptoSaid' is the law's where the arguments, and the package variables that the reading takes, are together of bulk at most 1048576: NARROWER than '..Said'. Prove '..Said' where nothing that the law and all that it calls make is longer than what came in: it says more and counts as full. Else prove '..UptoSaid'. A law counts once. -/
mutual
def uptoBulk {H : Type} : DataW H → Nat
  | .lit (.string bytes) => bytes.length + 1
  | .lit _ => 1
  | .nil => 1
  | .ptr d => uptoBulk d + 1
  | .slice elems spare => uptoBulkAll elems + uptoBulkAll spare + 1
  | .agg parts => uptoBulkAll parts + 1
  | .iface _ d => uptoBulk d + 1
  | .map entries => uptoBulkEntries entries + 1
  | .held _ => 1
def uptoBulkAll {H : Type} : List (DataW H) → Nat
  | [] => 0
  | d :: r => uptoBulk d + uptoBulkAll r
def uptoBulkEntries {H : Type} : List (Lit × DataW H) → Nat
  | [] => 0
  | x :: r => uptoBulkEntry x + uptoBulkEntries r
def uptoBulkEntry {H : Type} : Lit × DataW H → Nat
  | (.string bytes, d) => bytes.length + uptoBulk d + 1
  | (_, d) => uptoBulk d + 1
 end
def uptoSmall : (H : Type) → List (DataW H) → Bool := fun _ ds => decide (uptoBulkAll ds ≤ 1048576)
def OpenSpec.upto (s : _root_.Go.ChangeSpec) : _root_.Go.OpenSpec := { _root_.Go.OpenSpec.ofChange s with cond := some uptoSmall }

/-- 'laws.FnExactMovePoint', WHERE WHAT IT READS IS OF BULK AT MOST 1048576: true; the input reads as it did. -/
def fnExactMovePointUptoRow : OpenClaim := { program := "ytbibgeoohpgaeaa", sum := "93f17348837a4046c407e147bc94f1e7cfce2bb97dfdb92c50fde47afde04b7a", func := "loop.example/g01370/laws.FnExactMovePoint", spec := "fnExactMovePoint", unfollowed := true, recurses := true, apart := false, narrowed := true }
def FnExactMovePointUptoSaid : Prop := fnExactMovePointUptoRow.holds Try.pinned (OpenSpec.upto fnExactMovePointSpec)

/-- 'laws.FnExactIsMove', WHERE WHAT IT READS IS OF BULK AT MOST 1048576: true; the input reads as it did. -/
def fnExactIsMoveUptoRow : OpenClaim := { program := "ytbibgeoohpgaeaa", sum := "93f17348837a4046c407e147bc94f1e7cfce2bb97dfdb92c50fde47afde04b7a", func := "loop.example/g01370/laws.FnExactIsMove", spec := "fnExactIsMove", unfollowed := true, recurses := true, apart := false, narrowed := true }
def FnExactIsMoveUptoSaid : Prop := fnExactIsMoveUptoRow.holds Try.pinned (OpenSpec.upto fnExactIsMoveSpec)

/-- 'laws.FnExactProductOfMoves', WHERE WHAT IT READS IS OF BULK AT MOST 1048576: true; the input reads as it did. -/
def fnExactProductOfMovesUptoRow : OpenClaim := { program := "ytbibgeoohpgaeaa", sum := "93f17348837a4046c407e147bc94f1e7cfce2bb97dfdb92c50fde47afde04b7a", func := "loop.example/g01370/laws.FnExactProductOfMoves", spec := "fnExactProductOfMoves", unfollowed := true, recurses := true, apart := false, narrowed := true }
def FnExactProductOfMovesUptoSaid : Prop := fnExactProductOfMovesUptoRow.holds Try.pinned (OpenSpec.upto fnExactProductOfMovesSpec)

/-- 'laws.FnExactFixedPoints', WHERE WHAT IT READS IS OF BULK AT MOST 1048576: true; the input reads as it did. -/
def fnExactFixedPointsUptoRow : OpenClaim := { program := "ytbibgeoohpgaeaa", sum := "93f17348837a4046c407e147bc94f1e7cfce2bb97dfdb92c50fde47afde04b7a", func := "loop.example/g01370/laws.FnExactFixedPoints", spec := "fnExactFixedPoints", unfollowed := true, recurses := true, apart := false, narrowed := true }
def FnExactFixedPointsUptoSaid : Prop := fnExactFixedPointsUptoRow.holds Try.pinned (OpenSpec.upto fnExactFixedPointsSpec)

/-- 'laws.FnExactInverseMove', WHERE WHAT IT READS IS OF BULK AT MOST 1048576: true; the input reads as it did. -/
def fnExactInverseMoveUptoRow : OpenClaim := { program := "ytbibgeoohpgaeaa", sum := "93f17348837a4046c407e147bc94f1e7cfce2bb97dfdb92c50fde47afde04b7a", func := "loop.example/g01370/laws.FnExactInverseMove", spec := "fnExactInverseMove", unfollowed := true, recurses := true, apart := false, narrowed := true }
def FnExactInverseMoveUptoSaid : Prop := fnExactInverseMoveUptoRow.holds Try.pinned (OpenSpec.upto fnExactInverseMoveSpec)

/-- 'laws.FnExactCountTurns', WHERE WHAT IT READS IS OF BULK AT MOST 1048576: true; the input reads as it did. -/
def fnExactCountTurnsUptoRow : OpenClaim := { program := "ytbibgeoohpgaeaa", sum := "93f17348837a4046c407e147bc94f1e7cfce2bb97dfdb92c50fde47afde04b7a", func := "loop.example/g01370/laws.FnExactCountTurns", spec := "fnExactCountTurns", unfollowed := true, recurses := true, apart := false, narrowed := true }
def FnExactCountTurnsUptoSaid : Prop := fnExactCountTurnsUptoRow.holds Try.pinned (OpenSpec.upto fnExactCountTurnsSpec)

/-- 'laws.FnExactReflectionIn', WHERE WHAT IT READS IS OF BULK AT MOST 1048576: true; the input reads as it did. -/
def fnExactReflectionInUptoRow : OpenClaim := { program := "ytbibgeoohpgaeaa", sum := "93f17348837a4046c407e147bc94f1e7cfce2bb97dfdb92c50fde47afde04b7a", func := "loop.example/g01370/laws.FnExactReflectionIn", spec := "fnExactReflectionIn", unfollowed := true, recurses := true, apart := false, narrowed := true }
def FnExactReflectionInUptoSaid : Prop := fnExactReflectionInUptoRow.holds Try.pinned (OpenSpec.upto fnExactReflectionInSpec)

/-- 'laws.FnExactMoveLine', WHERE WHAT IT READS IS OF BULK AT MOST 1048576: true; the input reads as it did. -/
def fnExactMoveLineUptoRow : OpenClaim := { program := "ytbibgeoohpgaeaa", sum := "93f17348837a4046c407e147bc94f1e7cfce2bb97dfdb92c50fde47afde04b7a", func := "loop.example/g01370/laws.FnExactMoveLine", spec := "fnExactMoveLine", unfollowed := true, recurses := true, apart := false, narrowed := true }
def FnExactMoveLineUptoSaid : Prop := fnExactMoveLineUptoRow.holds Try.pinned (OpenSpec.upto fnExactMoveLineSpec)

/-- 'laws.FnExactTurnsAbout', WHERE WHAT IT READS IS OF BULK AT MOST 1048576: true; the input reads as it did. -/
def fnExactTurnsAboutUptoRow : OpenClaim := { program := "ytbibgeoohpgaeaa", sum := "93f17348837a4046c407e147bc94f1e7cfce2bb97dfdb92c50fde47afde04b7a", func := "loop.example/g01370/laws.FnExactTurnsAbout", spec := "fnExactTurnsAbout", unfollowed := true, recurses := true, apart := false, narrowed := true }
def FnExactTurnsAboutUptoSaid : Prop := fnExactTurnsAboutUptoRow.holds Try.pinned (OpenSpec.upto fnExactTurnsAboutSpec)

/-- 'laws.FnExactMovesBetween', WHERE WHAT IT READS IS OF BULK AT MOST 1048576: true; the input reads as it did. -/
def fnExactMovesBetweenUptoRow : OpenClaim := { program := "ytbibgeoohpgaeaa", sum := "93f17348837a4046c407e147bc94f1e7cfce2bb97dfdb92c50fde47afde04b7a", func := "loop.example/g01370/laws.FnExactMovesBetween", spec := "fnExactMovesBetween", unfollowed := true, recurses := true, apart := false, narrowed := true }
def FnExactMovesBetweenUptoSaid : Prop := fnExactMovesBetweenUptoRow.holds Try.pinned (OpenSpec.upto fnExactMovesBetweenSpec)

end Rows
end Go.Proofs.Ytbibgeoohpgaeaa
