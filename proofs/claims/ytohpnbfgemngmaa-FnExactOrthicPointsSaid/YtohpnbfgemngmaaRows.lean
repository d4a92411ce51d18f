/-
  No cell of these rows narrows 'for every input' (looked for: loops, veiled, ifaces, maps, wideKeys, modest, calm, conditions, laid).
  DERIVED. THE GIVEN ROWS OF THIS SEAT. 10 by the template 'for every input the law returns true; each argument reads behind the call as it read before'; 0 by the template 'total and deterministic' (their statements: YtohpnbfgemngmaaTotals.lean).
  GIVEN WITH THE SEED: the statements are not yours to turn. If you find one false, say at which input.
  Laid BY PROGRAM, IN A SANDBOX (cutbox-rows.mjs): the forced cells as the released guide's own fill.sh prints them over the translation 9333b27ae89dbd32… (all of the seat's roots in one cut). By AI agents, Wed Nov 11 2026. No macro, syntax, notation, axiom, sorry.
-/
import Derived.Test.YtohpnbfgemngmaaChecked
import GoSem.Claim
import GoSem.ClaimJoined
import GoSem.ClaimMapViews
import Derived.JoinedTies
import Derived.KernelRfl
namespace Go.Proofs.Ytohpnbfgemngmaa
/- THE CELL 'sum', in the pinned program and in every row, IS THE sha256 OF THE DUMP (.gsa) THAT YtohpnbfgemngmaaProg.lean LOADS. Nothing in Lean hashes anything: it is a label: what it is worth is what the hold of that sum in a sandbox is worth. -/
noncomputable def Try.pinned : Pinned := { name := "ytohpnbfgemngmaa", sum := "9333b27ae89dbd324bd838e17dcb6cd87d042698bcb9260646f3bb0ff468b992", checked := Try.checked }
namespace Rows
def none {H : Type} : Left H := { results := [], args := [] }

/-- 'laws.FnExactQuadreaOf': WHATEVER THE INPUT: true; the input reads as it did. -/
def fnExactQuadreaOfSpec : ChangeSpec := { name := "fnExactQuadreaOf", fn := fun _ => fun
  | [d1, d2, d3, d4, d5] => { results := [.lit (.bool true)], args := [d1, d2, d3, d4, d5] }
  | _ => none }
def fnExactQuadreaOfRow : OpenClaim := { program := "ytohpnbfgemngmaa", sum := "9333b27ae89dbd324bd838e17dcb6cd87d042698bcb9260646f3bb0ff468b992", func := "loop.example/g01370/laws.FnExactQuadreaOf", spec := "fnExactQuadreaOf", unfollowed := true, recurses := true, apart := false }
def FnExactQuadreaOfSaid : Prop := fnExactQuadreaOfRow.holds Try.pinned (OpenSpec.ofChange fnExactQuadreaOfSpec)

/-- ITS FALSE NEIGHBOUR: 'it returns false'. Refute it at one input. -/
def fnExactQuadreaOfWrong : ChangeSpec := { name := "fnExactQuadreaOf", fn := fun _ => fun
  | [d1, d2, d3, d4, d5] => { results := [.lit (.bool false)], args := [d1, d2, d3, d4, d5] }
  | _ => none }
def FnExactQuadreaOfWrongFalsely : Prop := fnExactQuadreaOfRow.holds Try.pinned (OpenSpec.ofChange fnExactQuadreaOfWrong)

/-- 'laws.FnExactCentroidOf': WHATEVER THE INPUT: true; the input reads as it did. -/
def fnExactCentroidOfSpec : ChangeSpec := { name := "fnExactCentroidOf", fn := fun _ => fun
  | [d1, d2, d3, d4] => { results := [.lit (.bool true)], args := [d1, d2, d3, d4] }
  | _ => none }
def fnExactCentroidOfRow : OpenClaim := { program := "ytohpnbfgemngmaa", sum := "9333b27ae89dbd324bd838e17dcb6cd87d042698bcb9260646f3bb0ff468b992", func := "loop.example/g01370/laws.FnExactCentroidOf", spec := "fnExactCentroidOf", unfollowed := true, recurses := true, apart := false }
def FnExactCentroidOfSaid : Prop := fnExactCentroidOfRow.holds Try.pinned (OpenSpec.ofChange fnExactCentroidOfSpec)

/-- ITS FALSE NEIGHBOUR: 'it returns false'. Refute it at one input. -/
def fnExactCentroidOfWrong : ChangeSpec := { name := "fnExactCentroidOf", fn := fun _ => fun
  | [d1, d2, d3, d4] => { results := [.lit (.bool false)], args := [d1, d2, d3, d4] }
  | _ => none }
def FnExactCentroidOfWrongFalsely : Prop := fnExactCentroidOfRow.holds Try.pinned (OpenSpec.ofChange fnExactCentroidOfWrong)

/-- 'laws.FnExactWeightsOf': WHATEVER THE INPUT: true; the input reads as it did. -/
def fnExactWeightsOfSpec : ChangeSpec := { name := "fnExactWeightsOf", fn := fun _ => fun
  | [d1, d2, d3, d4, d5] => { results := [.lit (.bool true)], args := [d1, d2, d3, d4, d5] }
  | _ => none }
def fnExactWeightsOfRow : OpenClaim := { program := "ytohpnbfgemngmaa", sum := "9333b27ae89dbd324bd838e17dcb6cd87d042698bcb9260646f3bb0ff468b992", func := "loop.example/g01370/laws.FnExactWeightsOf", spec := "fnExactWeightsOf", unfollowed := true, recurses := true, apart := false }
def FnExactWeightsOfSaid : Prop := fnExactWeightsOfRow.holds Try.pinned (OpenSpec.ofChange fnExactWeightsOfSpec)

/-- ITS FALSE NEIGHBOUR: 'it returns false'. Refute it at one input. -/
def fnExactWeightsOfWrong : ChangeSpec := { name := "fnExactWeightsOf", fn := fun _ => fun
  | [d1, d2, d3, d4, d5] => { results := [.lit (.bool false)], args := [d1, d2, d3, d4, d5] }
  | _ => none }
def FnExactWeightsOfWrongFalsely : Prop := fnExactWeightsOfRow.holds Try.pinned (OpenSpec.ofChange fnExactWeightsOfWrong)

/-- 'laws.FnExactMedianOf': WHATEVER THE INPUT: true; the input reads as it did. -/
def fnExactMedianOfSpec : ChangeSpec := { name := "fnExactMedianOf", fn := fun _ => fun
  | [d1, d2, d3, d4] => { results := [.lit (.bool true)], args := [d1, d2, d3, d4] }
  | _ => none }
def fnExactMedianOfRow : OpenClaim := { program := "ytohpnbfgemngmaa", sum := "9333b27ae89dbd324bd838e17dcb6cd87d042698bcb9260646f3bb0ff468b992", func := "loop.example/g01370/laws.FnExactMedianOf", spec := "fnExactMedianOf", unfollowed := true, recurses := true, apart := false }
def FnExactMedianOfSaid : Prop := fnExactMedianOfRow.holds Try.pinned (OpenSpec.ofChange fnExactMedianOfSpec)

/-- ITS FALSE NEIGHBOUR: 'it returns false'. Refute it at one input. -/
def fnExactMedianOfWrong : ChangeSpec := { name := "fnExactMedianOf", fn := fun _ => fun
  | [d1, d2, d3, d4] => { results := [.lit (.bool false)], args := [d1, d2, d3, d4] }
  | _ => none }
def FnExactMedianOfWrongFalsely : Prop := fnExactMedianOfRow.holds Try.pinned (OpenSpec.ofChange fnExactMedianOfWrong)

/-- 'laws.FnExactCircumcentreOf': WHATEVER THE INPUT: true; the input reads as it did. -/
def fnExactCircumcentreOfSpec : ChangeSpec := { name := "fnExactCircumcentreOf", fn := fun _ => fun
  | [d1, d2, d3, d4, d5] => { results := [.lit (.bool true)], args := [d1, d2, d3, d4, d5] }
  | _ => none }
def fnExactCircumcentreOfRow : OpenClaim := { program := "ytohpnbfgemngmaa", sum := "9333b27ae89dbd324bd838e17dcb6cd87d042698bcb9260646f3bb0ff468b992", func := "loop.example/g01370/laws.FnExactCircumcentreOf", spec := "fnExactCircumcentreOf", unfollowed := true, recurses := true, apart := false }
def FnExactCircumcentreOfSaid : Prop := fnExactCircumcentreOfRow.holds Try.pinned (OpenSpec.ofChange fnExactCircumcentreOfSpec)

/-- ITS FALSE NEIGHBOUR: 'it returns false'. Refute it at one input. -/
def fnExactCircumcentreOfWrong : ChangeSpec := { name := "fnExactCircumcentreOf", fn := fun _ => fun
  | [d1, d2, d3, d4, d5] => { results := [.lit (.bool false)], args := [d1, d2, d3, d4, d5] }
  | _ => none }
def FnExactCircumcentreOfWrongFalsely : Prop := fnExactCircumcentreOfRow.holds Try.pinned (OpenSpec.ofChange fnExactCircumcentreOfWrong)

/-- 'laws.FnExactAltitudeOf': WHATEVER THE INPUT: true; the input reads as it did. -/
def fnExactAltitudeOfSpec : ChangeSpec := { name := "fnExactAltitudeOf", fn := fun _ => fun
  | [d1, d2, d3, d4, d5] => { results := [.lit (.bool true)], args := [d1, d2, d3, d4, d5] }
  | _ => none }
def fnExactAltitudeOfRow : OpenClaim := { program := "ytohpnbfgemngmaa", sum := "9333b27ae89dbd324bd838e17dcb6cd87d042698bcb9260646f3bb0ff468b992", func := "loop.example/g01370/laws.FnExactAltitudeOf", spec := "fnExactAltitudeOf", unfollowed := true, recurses := true, apart := false }
def FnExactAltitudeOfSaid : Prop := fnExactAltitudeOfRow.holds Try.pinned (OpenSpec.ofChange fnExactAltitudeOfSpec)

/-- ITS FALSE NEIGHBOUR: 'it returns false'. Refute it at one input. -/
def fnExactAltitudeOfWrong : ChangeSpec := { name := "fnExactAltitudeOf", fn := fun _ => fun
  | [d1, d2, d3, d4, d5] => { results := [.lit (.bool false)], args := [d1, d2, d3, d4, d5] }
  | _ => none }
def FnExactAltitudeOfWrongFalsely : Prop := fnExactAltitudeOfRow.holds Try.pinned (OpenSpec.ofChange fnExactAltitudeOfWrong)

/-- 'laws.FnExactCircumquadranceOf': WHATEVER THE INPUT: true; the input reads as it did. -/
def fnExactCircumquadranceOfSpec : ChangeSpec := { name := "fnExactCircumquadranceOf", fn := fun _ => fun
  | [d1, d2, d3, d4, d5] => { results := [.lit (.bool true)], args := [d1, d2, d3, d4, d5] }
  | _ => none }
def fnExactCircumquadranceOfRow : OpenClaim := { program := "ytohpnbfgemngmaa", sum := "9333b27ae89dbd324bd838e17dcb6cd87d042698bcb9260646f3bb0ff468b992", func := "loop.example/g01370/laws.FnExactCircumquadranceOf", spec := "fnExactCircumquadranceOf", unfollowed := true, recurses := true, apart := false }
def FnExactCircumquadranceOfSaid : Prop := fnExactCircumquadranceOfRow.holds Try.pinned (OpenSpec.ofChange fnExactCircumquadranceOfSpec)

/-- ITS FALSE NEIGHBOUR: 'it returns false'. Refute it at one input. -/
def fnExactCircumquadranceOfWrong : ChangeSpec := { name := "fnExactCircumquadranceOf", fn := fun _ => fun
  | [d1, d2, d3, d4, d5] => { results := [.lit (.bool false)], args := [d1, d2, d3, d4, d5] }
  | _ => none }
def FnExactCircumquadranceOfWrongFalsely : Prop := fnExactCircumquadranceOfRow.holds Try.pinned (OpenSpec.ofChange fnExactCircumquadranceOfWrong)

/-- 'laws.FnExactOrthocentreOf': WHATEVER THE INPUT: true; the input reads as it did. -/
def fnExactOrthocentreOfSpec : ChangeSpec := { name := "fnExactOrthocentreOf", fn := fun _ => fun
  | [d1, d2, d3, d4, d5] => { results := [.lit (.bool true)], args := [d1, d2, d3, d4, d5] }
  | _ => none }
def fnExactOrthocentreOfRow : OpenClaim := { program := "ytohpnbfgemngmaa", sum := "9333b27ae89dbd324bd838e17dcb6cd87d042698bcb9260646f3bb0ff468b992", func := "loop.example/g01370/laws.FnExactOrthocentreOf", spec := "fnExactOrthocentreOf", unfollowed := true, recurses := true, apart := false }
def FnExactOrthocentreOfSaid : Prop := fnExactOrthocentreOfRow.holds Try.pinned (OpenSpec.ofChange fnExactOrthocentreOfSpec)

/-- ITS FALSE NEIGHBOUR: 'it returns false'. Refute it at one input. -/
def fnExactOrthocentreOfWrong : ChangeSpec := { name := "fnExactOrthocentreOf", fn := fun _ => fun
  | [d1, d2, d3, d4, d5] => { results := [.lit (.bool false)], args := [d1, d2, d3, d4, d5] }
  | _ => none }
def FnExactOrthocentreOfWrongFalsely : Prop := fnExactOrthocentreOfRow.holds Try.pinned (OpenSpec.ofChange fnExactOrthocentreOfWrong)

/-- 'laws.FnExactEulerLineOf': WHATEVER THE INPUT: true; the input reads as it did. -/
def fnExactEulerLineOfSpec : ChangeSpec := { name := "fnExactEulerLineOf", fn := fun _ => fun
  | [d1, d2, d3, d4, d5] => { results := [.lit (.bool true)], args := [d1, d2, d3, d4, d5] }
  | _ => none }
def fnExactEulerLineOfRow : OpenClaim := { program := "ytohpnbfgemngmaa", sum := "9333b27ae89dbd324bd838e17dcb6cd87d042698bcb9260646f3bb0ff468b992", func := "loop.example/g01370/laws.FnExactEulerLineOf", spec := "fnExactEulerLineOf", unfollowed := true, recurses := true, apart := false }
def FnExactEulerLineOfSaid : Prop := fnExactEulerLineOfRow.holds Try.pinned (OpenSpec.ofChange fnExactEulerLineOfSpec)

/-- ITS FALSE NEIGHBOUR: 'it returns false'. Refute it at one input. -/
def fnExactEulerLineOfWrong : ChangeSpec := { name := "fnExactEulerLineOf", fn := fun _ => fun
  | [d1, d2, d3, d4, d5] => { results := [.lit (.bool false)], args := [d1, d2, d3, d4, d5] }
  | _ => none }
def FnExactEulerLineOfWrongFalsely : Prop := fnExactEulerLineOfRow.holds Try.pinned (OpenSpec.ofChange fnExactEulerLineOfWrong)

/-- 'laws.FnExactOrthicPoints': WHATEVER THE INPUT: true; the input reads as it did. -/
def fnExactOrthicPointsSpec : ChangeSpec := { name := "fnExactOrthicPoints", fn := fun _ => fun
  | [d1, d2, d3, d4, d5] => { results := [.lit (.bool true)], args := [d1, d2, d3, d4, d5] }
  | _ => none }
def fnExactOrthicPointsRow : OpenClaim := { program := "ytohpnbfgemngmaa", sum := "9333b27ae89dbd324bd838e17dcb6cd87d042698bcb9260646f3bb0ff468b992", func := "loop.example/g01370/laws.FnExactOrthicPoints", spec := "fnExactOrthicPoints", unfollowed := true, recurses := true, apart := false }
def FnExactOrthicPointsSaid : Prop := fnExactOrthicPointsRow.holds Try.pinned (OpenSpec.ofChange fnExactOrthicPointsSpec)

/-- ITS FALSE NEIGHBOUR: 'it returns false'. Refute it at one input. -/
def fnExactOrthicPointsWrong : ChangeSpec := { name := "fnExactOrthicPoints", fn := fun _ => fun
  | [d1, d2, d3, d4, d5] => { results := [.lit (.bool false)], args := [d1, d2, d3, d4, d5] }
  | _ => none }
def FnExactOrthicPointsWrongFalsely : Prop := fnExactOrthicPointsRow.holds Try.pinned (OpenSpec.ofChange fnExactOrthicPointsWrong)

/- THE SECOND FORM. 'bulk': how many values and letters a reading holds, each counted each time it is reached (what is shared counts as often as it is met; a slice's spare places count too). A statement '..UptoSaid' is the law's where the arguments, and the package variables that the reading takes, are together of bulk at most 1048576: NARROWER than '..Said'. Prove '..Said' where nothing that the law and all that it calls make is longer than what came in: it says more and counts as full. Else prove '..UptoSaid'. A law counts once. -/
mutual
def uptoBulk {H : Type} : DataW H → Nat
  | .lit (.string bytes) => bytes.length + 1
  | .lit _ => 1
  | .nil => 1
  | .ptr d => uptoBulk d + 1
  | .slice elems spare => uptoBulkAll elems + uptoBulkAll spare + 1
  | .agg parts => uptoBulkAll parts + 1
  | .iface _ d => uptoBulk d + 1
  | .map entries => uptoBulkEntries entries + 1
  | .held _ => 1
def uptoBulkAll {H : Type} : List (DataW H) → Nat
  | [] => 0
  | d :: r => uptoBulk d + uptoBulkAll r
def uptoBulkEntries {H : Type} : List (Lit × DataW H) → Nat
  | [] => 0
  | x :: r => uptoBulkEntry x + uptoBulkEntries r
def uptoBulkEntry {H : Type} : Lit × DataW H → Nat
  | (.string bytes, d) => bytes.length + uptoBulk d + 1
  | (_, d) => uptoBulk d + 1
 end
def uptoSmall : (H : Type) → List (DataW H) → Bool := fun _ ds => decide (uptoBulkAll ds ≤ 1048576)
def OpenSpec.upto (s : _root_.Go.ChangeSpec) : _root_.Go.OpenSpec := { _root_.Go.OpenSpec.ofChange s with cond := some uptoSmall }

/-- 'laws.FnExactQuadreaOf', WHERE WHAT IT READS IS OF BULK AT MOST 1048576: true; the input reads as it did. -/
def fnExactQuadreaOfUptoRow : OpenClaim := { program := "ytohpnbfgemngmaa", sum := "9333b27ae89dbd324bd838e17dcb6cd87d042698bcb9260646f3bb0ff468b992", func := "loop.example/g01370/laws.FnExactQuadreaOf", spec := "fnExactQuadreaOf", unfollowed := true, recurses := true, apart := false, narrowed := true }
def FnExactQuadreaOfUptoSaid : Prop := fnExactQuadreaOfUptoRow.holds Try.pinned (OpenSpec.upto fnExactQuadreaOfSpec)

/-- 'laws.FnExactCentroidOf', WHERE WHAT IT READS IS OF BULK AT MOST 1048576: true; the input reads as it did. -/
def fnExactCentroidOfUptoRow : OpenClaim := { program := "ytohpnbfgemngmaa", sum := "9333b27ae89dbd324bd838e17dcb6cd87d042698bcb9260646f3bb0ff468b992", func := "loop.example/g01370/laws.FnExactCentroidOf", spec := "fnExactCentroidOf", unfollowed := true, recurses := true, apart := false, narrowed := true }
def FnExactCentroidOfUptoSaid : Prop := fnExactCentroidOfUptoRow.holds Try.pinned (OpenSpec.upto fnExactCentroidOfSpec)

/-- 'laws.FnExactWeightsOf', WHERE WHAT IT READS IS OF BULK AT MOST 1048576: true; the input reads as it did. -/
def fnExactWeightsOfUptoRow : OpenClaim := { program := "ytohpnbfgemngmaa", sum := "9333b27ae89dbd324bd838e17dcb6cd87d042698bcb9260646f3bb0ff468b992", func := "loop.example/g01370/laws.FnExactWeightsOf", spec := "fnExactWeightsOf", unfollowed := true, recurses := true, apart := false, narrowed := true }
def FnExactWeightsOfUptoSaid : Prop := fnExactWeightsOfUptoRow.holds Try.pinned (OpenSpec.upto fnExactWeightsOfSpec)

/-- 'laws.FnExactMedianOf', WHERE WHAT IT READS IS OF BULK AT MOST 1048576: true; the input reads as it did. -/
def fnExactMedianOfUptoRow : OpenClaim := { program := "ytohpnbfgemngmaa", sum := "9333b27ae89dbd324bd838e17dcb6cd87d042698bcb9260646f3bb0ff468b992", func := "loop.example/g01370/laws.FnExactMedianOf", spec := "fnExactMedianOf", unfollowed := true, recurses := true, apart := false, narrowed := true }
def FnExactMedianOfUptoSaid : Prop := fnExactMedianOfUptoRow.holds Try.pinned (OpenSpec.upto fnExactMedianOfSpec)

/-- 'laws.FnExactCircumcentreOf', WHERE WHAT IT READS IS OF BULK AT MOST 1048576: true; the input reads as it did. -/
def fnExactCircumcentreOfUptoRow : OpenClaim := { program := "ytohpnbfgemngmaa", sum := "9333b27ae89dbd324bd838e17dcb6cd87d042698bcb9260646f3bb0ff468b992", func := "loop.example/g01370/laws.FnExactCircumcentreOf", spec := "fnExactCircumcentreOf", unfollowed := true, recurses := true, apart := false, narrowed := true }
def FnExactCircumcentreOfUptoSaid : Prop := fnExactCircumcentreOfUptoRow.holds Try.pinned (OpenSpec.upto fnExactCircumcentreOfSpec)

/-- 'laws.FnExactAltitudeOf', WHERE WHAT IT READS IS OF BULK AT MOST 1048576: true; the input reads as it did. -/
def fnExactAltitudeOfUptoRow : OpenClaim := { program := "ytohpnbfgemngmaa", sum := "9333b27ae89dbd324bd838e17dcb6cd87d042698bcb9260646f3bb0ff468b992", func := "loop.example/g01370/laws.FnExactAltitudeOf", spec := "fnExactAltitudeOf", unfollowed := true, recurses := true, apart := false, narrowed := true }
def FnExactAltitudeOfUptoSaid : Prop := fnExactAltitudeOfUptoRow.holds Try.pinned (OpenSpec.upto fnExactAltitudeOfSpec)

/-- 'laws.FnExactCircumquadranceOf', WHERE WHAT IT READS IS OF BULK AT MOST 1048576: true; the input reads as it did. -/
def fnExactCircumquadranceOfUptoRow : OpenClaim := { program := "ytohpnbfgemngmaa", sum := "9333b27ae89dbd324bd838e17dcb6cd87d042698bcb9260646f3bb0ff468b992", func := "loop.example/g01370/laws.FnExactCircumquadranceOf", spec := "fnExactCircumquadranceOf", unfollowed := true, recurses := true, apart := false, narrowed := true }
def FnExactCircumquadranceOfUptoSaid : Prop := fnExactCircumquadranceOfUptoRow.holds Try.pinned (OpenSpec.upto fnExactCircumquadranceOfSpec)

/-- 'laws.FnExactOrthocentreOf', WHERE WHAT IT READS IS OF BULK AT MOST 1048576: true; the input reads as it did. -/
def fnExactOrthocentreOfUptoRow : OpenClaim := { program := "ytohpnbfgemngmaa", sum := "9333b27ae89dbd324bd838e17dcb6cd87d042698bcb9260646f3bb0ff468b992", func := "loop.example/g01370/laws.FnExactOrthocentreOf", spec := "fnExactOrthocentreOf", unfollowed := true, recurses := true, apart := false, narrowed := true }
def FnExactOrthocentreOfUptoSaid : Prop := fnExactOrthocentreOfUptoRow.holds Try.pinned (OpenSpec.upto fnExactOrthocentreOfSpec)

/-- 'laws.FnExactEulerLineOf', WHERE WHAT IT READS IS OF BULK AT MOST 1048576: true; the input reads as it did. -/
def fnExactEulerLineOfUptoRow : OpenClaim := { program := "ytohpnbfgemngmaa", sum := "9333b27ae89dbd324bd838e17dcb6cd87d042698bcb9260646f3bb0ff468b992", func := "loop.example/g01370/laws.FnExactEulerLineOf", spec := "fnExactEulerLineOf", unfollowed := true, recurses := true, apart := false, narrowed := true }
def FnExactEulerLineOfUptoSaid : Prop := fnExactEulerLineOfUptoRow.holds Try.pinned (OpenSpec.upto fnExactEulerLineOfSpec)

/-- 'laws.FnExactOrthicPoints', WHERE WHAT IT READS IS OF BULK AT MOST 1048576: true; the input reads as it did. -/
def fnExactOrthicPointsUptoRow : OpenClaim := { program := "ytohpnbfgemngmaa", sum := "9333b27ae89dbd324bd838e17dcb6cd87d042698bcb9260646f3bb0ff468b992", func := "loop.example/g01370/laws.FnExactOrthicPoints", spec := "fnExactOrthicPoints", unfollowed := true, recurses := true, apart := false, narrowed := true }
def FnExactOrthicPointsUptoSaid : Prop := fnExactOrthicPointsUptoRow.holds Try.pinned (OpenSpec.upto fnExactOrthicPointsSpec)

end Rows
end Go.Proofs.Ytohpnbfgemngmaa
