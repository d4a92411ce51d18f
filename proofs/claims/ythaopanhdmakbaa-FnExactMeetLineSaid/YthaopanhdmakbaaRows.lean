/-
  No cell of these rows narrows 'for every input' (looked for: loops, veiled, ifaces, maps, wideKeys, modest, calm, conditions, laid).
  DERIVED. THE GIVEN ROWS OF THIS SEAT. 11 by the template 'for every input the law returns true; each argument reads behind the call as it read before'; 0 by the template 'total and deterministic' (their statements: YthaopanhdmakbaaTotals.lean).
  GIVEN WITH THE SEED: the statements are not yours to turn. If you find one false, say at which input.
  Laid BY PROGRAM, IN A SANDBOX (cutbox-rows.mjs): the forced cells as the released guide's own fill.sh prints them over the translation b887df855e14fe82… (all of the seat's roots in one cut). By AI agents, Wed Nov 11 2026. No macro, syntax, notation, axiom, sorry.
-/
import Derived.Test.YthaopanhdmakbaaChecked
import GoSem.Claim
import GoSem.ClaimJoined
import GoSem.ClaimMapViews
import Derived.JoinedTies
import Derived.KernelRfl
namespace Go.Proofs.Ythaopanhdmakbaa
/- THE CELL 'sum', in the pinned program and in every row, IS THE sha256 OF THE DUMP (.gsa) THAT YthaopanhdmakbaaProg.lean LOADS. Nothing in Lean hashes anything: it is a label: what it is worth is what the hold of that sum in a sandbox is worth. -/
noncomputable def Try.pinned : Pinned := { name := "ythaopanhdmakbaa", sum := "b887df855e14fe829a282fe628bcd0f2217e522848546962d050676c0c16c79a", checked := Try.checked }
namespace Rows
def none {H : Type} : Left H := { results := [], args := [] }

/-- 'laws.FnExactIsCircle': WHATEVER THE INPUT: true; the input reads as it did. -/
def fnExactIsCircleSpec : ChangeSpec := { name := "fnExactIsCircle", fn := fun _ => fun
  | [d1, d2] => { results := [.lit (.bool true)], args := [d1, d2] }
  | _ => none }
def fnExactIsCircleRow : OpenClaim := { program := "ythaopanhdmakbaa", sum := "b887df855e14fe829a282fe628bcd0f2217e522848546962d050676c0c16c79a", func := "loop.example/g01370/laws.FnExactIsCircle", spec := "fnExactIsCircle", plainKeys := false, apart := false }
def FnExactIsCircleSaid : Prop := fnExactIsCircleRow.holds Try.pinned (OpenSpec.ofChange fnExactIsCircleSpec)

/-- ITS FALSE NEIGHBOUR: 'it returns false'. Refute it at one input. -/
def fnExactIsCircleWrong : ChangeSpec := { name := "fnExactIsCircle", fn := fun _ => fun
  | [d1, d2] => { results := [.lit (.bool false)], args := [d1, d2] }
  | _ => none }
def FnExactIsCircleWrongFalsely : Prop := fnExactIsCircleRow.holds Try.pinned (OpenSpec.ofChange fnExactIsCircleWrong)

/-- 'laws.FnExactPowerOf': WHATEVER THE INPUT: true; the input reads as it did. -/
def fnExactPowerOfSpec : ChangeSpec := { name := "fnExactPowerOf", fn := fun _ => fun
  | [d1, d2, d3, d4] => { results := [.lit (.bool true)], args := [d1, d2, d3, d4] }
  | _ => none }
def fnExactPowerOfRow : OpenClaim := { program := "ythaopanhdmakbaa", sum := "b887df855e14fe829a282fe628bcd0f2217e522848546962d050676c0c16c79a", func := "loop.example/g01370/laws.FnExactPowerOf", spec := "fnExactPowerOf", unfollowed := true, recurses := true, plainKeys := false, apart := false }
def FnExactPowerOfSaid : Prop := fnExactPowerOfRow.holds Try.pinned (OpenSpec.ofChange fnExactPowerOfSpec)

/-- ITS FALSE NEIGHBOUR: 'it returns false'. Refute it at one input. -/
def fnExactPowerOfWrong : ChangeSpec := { name := "fnExactPowerOf", fn := fun _ => fun
  | [d1, d2, d3, d4] => { results := [.lit (.bool false)], args := [d1, d2, d3, d4] }
  | _ => none }
def FnExactPowerOfWrongFalsely : Prop := fnExactPowerOfRow.holds Try.pinned (OpenSpec.ofChange fnExactPowerOfWrong)

/-- 'laws.FnExactInversePoint': WHATEVER THE INPUT: true; the input reads as it did. -/
def fnExactInversePointSpec : ChangeSpec := { name := "fnExactInversePoint", fn := fun _ => fun
  | [d1, d2, d3, d4] => { results := [.lit (.bool true)], args := [d1, d2, d3, d4] }
  | _ => none }
def fnExactInversePointRow : OpenClaim := { program := "ythaopanhdmakbaa", sum := "b887df855e14fe829a282fe628bcd0f2217e522848546962d050676c0c16c79a", func := "loop.example/g01370/laws.FnExactInversePoint", spec := "fnExactInversePoint", unfollowed := true, recurses := true, plainKeys := false, apart := false }
def FnExactInversePointSaid : Prop := fnExactInversePointRow.holds Try.pinned (OpenSpec.ofChange fnExactInversePointSpec)

/-- ITS FALSE NEIGHBOUR: 'it returns false'. Refute it at one input. -/
def fnExactInversePointWrong : ChangeSpec := { name := "fnExactInversePoint", fn := fun _ => fun
  | [d1, d2, d3, d4] => { results := [.lit (.bool false)], args := [d1, d2, d3, d4] }
  | _ => none }
def FnExactInversePointWrongFalsely : Prop := fnExactInversePointRow.holds Try.pinned (OpenSpec.ofChange fnExactInversePointWrong)

/-- 'laws.FnExactRadicalLine': WHATEVER THE INPUT: true; the input reads as it did. -/
def fnExactRadicalLineSpec : ChangeSpec := { name := "fnExactRadicalLine", fn := fun _ => fun
  | [d1, d2, d3, d4] => { results := [.lit (.bool true)], args := [d1, d2, d3, d4] }
  | _ => none }
def fnExactRadicalLineRow : OpenClaim := { program := "ythaopanhdmakbaa", sum := "b887df855e14fe829a282fe628bcd0f2217e522848546962d050676c0c16c79a", func := "loop.example/g01370/laws.FnExactRadicalLine", spec := "fnExactRadicalLine", unfollowed := true, recurses := true, plainKeys := false, apart := false }
def FnExactRadicalLineSaid : Prop := fnExactRadicalLineRow.holds Try.pinned (OpenSpec.ofChange fnExactRadicalLineSpec)

/-- ITS FALSE NEIGHBOUR: 'it returns false'. Refute it at one input. -/
def fnExactRadicalLineWrong : ChangeSpec := { name := "fnExactRadicalLine", fn := fun _ => fun
  | [d1, d2, d3, d4] => { results := [.lit (.bool false)], args := [d1, d2, d3, d4] }
  | _ => none }
def FnExactRadicalLineWrongFalsely : Prop := fnExactRadicalLineRow.holds Try.pinned (OpenSpec.ofChange fnExactRadicalLineWrong)

/-- 'laws.FnExactMeetCircles': WHATEVER THE INPUT: true; the input reads as it did. -/
def fnExactMeetCirclesSpec : ChangeSpec := { name := "fnExactMeetCircles", fn := fun _ => fun
  | [d1, d2, d3, d4] => { results := [.lit (.bool true)], args := [d1, d2, d3, d4] }
  | _ => none }
def fnExactMeetCirclesRow : OpenClaim := { program := "ythaopanhdmakbaa", sum := "b887df855e14fe829a282fe628bcd0f2217e522848546962d050676c0c16c79a", func := "loop.example/g01370/laws.FnExactMeetCircles", spec := "fnExactMeetCircles", unfollowed := true, recurses := true, plainKeys := false, apart := false }
def FnExactMeetCirclesSaid : Prop := fnExactMeetCirclesRow.holds Try.pinned (OpenSpec.ofChange fnExactMeetCirclesSpec)

/-- ITS FALSE NEIGHBOUR: 'it returns false'. Refute it at one input. -/
def fnExactMeetCirclesWrong : ChangeSpec := { name := "fnExactMeetCircles", fn := fun _ => fun
  | [d1, d2, d3, d4] => { results := [.lit (.bool false)], args := [d1, d2, d3, d4] }
  | _ => none }
def FnExactMeetCirclesWrongFalsely : Prop := fnExactMeetCirclesRow.holds Try.pinned (OpenSpec.ofChange fnExactMeetCirclesWrong)

/-- 'laws.FnExactRadicalCentre': WHATEVER THE INPUT: true; the input reads as it did. -/
def fnExactRadicalCentreSpec : ChangeSpec := { name := "fnExactRadicalCentre", fn := fun _ => fun
  | [d1, d2, d3, d4, d5] => { results := [.lit (.bool true)], args := [d1, d2, d3, d4, d5] }
  | _ => none }
def fnExactRadicalCentreRow : OpenClaim := { program := "ythaopanhdmakbaa", sum := "b887df855e14fe829a282fe628bcd0f2217e522848546962d050676c0c16c79a", func := "loop.example/g01370/laws.FnExactRadicalCentre", spec := "fnExactRadicalCentre", unfollowed := true, recurses := true, plainKeys := false, apart := false }
def FnExactRadicalCentreSaid : Prop := fnExactRadicalCentreRow.holds Try.pinned (OpenSpec.ofChange fnExactRadicalCentreSpec)

/-- ITS FALSE NEIGHBOUR: 'it returns false'. Refute it at one input. -/
def fnExactRadicalCentreWrong : ChangeSpec := { name := "fnExactRadicalCentre", fn := fun _ => fun
  | [d1, d2, d3, d4, d5] => { results := [.lit (.bool false)], args := [d1, d2, d3, d4, d5] }
  | _ => none }
def FnExactRadicalCentreWrongFalsely : Prop := fnExactRadicalCentreRow.holds Try.pinned (OpenSpec.ofChange fnExactRadicalCentreWrong)

/-- 'laws.FnExactAreCyclic': WHATEVER THE INPUT: true; the input reads as it did. -/
def fnExactAreCyclicSpec : ChangeSpec := { name := "fnExactAreCyclic", fn := fun _ => fun
  | [d1, d2, d3, d4, d5, d6] => { results := [.lit (.bool true)], args := [d1, d2, d3, d4, d5, d6] }
  | _ => none }
def fnExactAreCyclicRow : OpenClaim := { program := "ythaopanhdmakbaa", sum := "b887df855e14fe829a282fe628bcd0f2217e522848546962d050676c0c16c79a", func := "loop.example/g01370/laws.FnExactAreCyclic", spec := "fnExactAreCyclic", unfollowed := true, recurses := true, plainKeys := false, apart := false }
def FnExactAreCyclicSaid : Prop := fnExactAreCyclicRow.holds Try.pinned (OpenSpec.ofChange fnExactAreCyclicSpec)

/-- ITS FALSE NEIGHBOUR: 'it returns false'. Refute it at one input. -/
def fnExactAreCyclicWrong : ChangeSpec := { name := "fnExactAreCyclic", fn := fun _ => fun
  | [d1, d2, d3, d4, d5, d6] => { results := [.lit (.bool false)], args := [d1, d2, d3, d4, d5, d6] }
  | _ => none }
def FnExactAreCyclicWrongFalsely : Prop := fnExactAreCyclicRow.holds Try.pinned (OpenSpec.ofChange fnExactAreCyclicWrong)

/-- 'laws.FnExactTangentAt': WHATEVER THE INPUT: true; the input reads as it did. -/
def fnExactTangentAtSpec : ChangeSpec := { name := "fnExactTangentAt", fn := fun _ => fun
  | [d1, d2, d3, d4] => { results := [.lit (.bool true)], args := [d1, d2, d3, d4] }
  | _ => none }
def fnExactTangentAtRow : OpenClaim := { program := "ythaopanhdmakbaa", sum := "b887df855e14fe829a282fe628bcd0f2217e522848546962d050676c0c16c79a", func := "loop.example/g01370/laws.FnExactTangentAt", spec := "fnExactTangentAt", unfollowed := true, recurses := true, plainKeys := false, apart := false }
def FnExactTangentAtSaid : Prop := fnExactTangentAtRow.holds Try.pinned (OpenSpec.ofChange fnExactTangentAtSpec)

/-- ITS FALSE NEIGHBOUR: 'it returns false'. Refute it at one input. -/
def fnExactTangentAtWrong : ChangeSpec := { name := "fnExactTangentAt", fn := fun _ => fun
  | [d1, d2, d3, d4] => { results := [.lit (.bool false)], args := [d1, d2, d3, d4] }
  | _ => none }
def FnExactTangentAtWrongFalsely : Prop := fnExactTangentAtRow.holds Try.pinned (OpenSpec.ofChange fnExactTangentAtWrong)

/-- 'laws.FnExactCircleThrough': WHATEVER THE INPUT: true; the input reads as it did. -/
def fnExactCircleThroughSpec : ChangeSpec := { name := "fnExactCircleThrough", fn := fun _ => fun
  | [d1, d2, d3, d4, d5] => { results := [.lit (.bool true)], args := [d1, d2, d3, d4, d5] }
  | _ => none }
def fnExactCircleThroughRow : OpenClaim := { program := "ythaopanhdmakbaa", sum := "b887df855e14fe829a282fe628bcd0f2217e522848546962d050676c0c16c79a", func := "loop.example/g01370/laws.FnExactCircleThrough", spec := "fnExactCircleThrough", unfollowed := true, recurses := true, plainKeys := false, apart := false }
def FnExactCircleThroughSaid : Prop := fnExactCircleThroughRow.holds Try.pinned (OpenSpec.ofChange fnExactCircleThroughSpec)

/-- ITS FALSE NEIGHBOUR: 'it returns false'. Refute it at one input. -/
def fnExactCircleThroughWrong : ChangeSpec := { name := "fnExactCircleThrough", fn := fun _ => fun
  | [d1, d2, d3, d4, d5] => { results := [.lit (.bool false)], args := [d1, d2, d3, d4, d5] }
  | _ => none }
def FnExactCircleThroughWrongFalsely : Prop := fnExactCircleThroughRow.holds Try.pinned (OpenSpec.ofChange fnExactCircleThroughWrong)

/-- 'laws.FnExactMeetLine': WHATEVER THE INPUT: true; the input reads as it did. -/
def fnExactMeetLineSpec : ChangeSpec := { name := "fnExactMeetLine", fn := fun _ => fun
  | [d1, d2, d3, d4] => { results := [.lit (.bool true)], args := [d1, d2, d3, d4] }
  | _ => none }
def fnExactMeetLineRow : OpenClaim := { program := "ythaopanhdmakbaa", sum := "b887df855e14fe829a282fe628bcd0f2217e522848546962d050676c0c16c79a", func := "loop.example/g01370/laws.FnExactMeetLine", spec := "fnExactMeetLine", unfollowed := true, recurses := true, plainKeys := false, apart := false }
def FnExactMeetLineSaid : Prop := fnExactMeetLineRow.holds Try.pinned (OpenSpec.ofChange fnExactMeetLineSpec)

/-- ITS FALSE NEIGHBOUR: 'it returns false'. Refute it at one input. -/
def fnExactMeetLineWrong : ChangeSpec := { name := "fnExactMeetLine", fn := fun _ => fun
  | [d1, d2, d3, d4] => { results := [.lit (.bool false)], args := [d1, d2, d3, d4] }
  | _ => none }
def FnExactMeetLineWrongFalsely : Prop := fnExactMeetLineRow.holds Try.pinned (OpenSpec.ofChange fnExactMeetLineWrong)

/-- 'laws.FnExactTangentsFrom': WHATEVER THE INPUT: true; the input reads as it did. -/
def fnExactTangentsFromSpec : ChangeSpec := { name := "fnExactTangentsFrom", fn := fun _ => fun
  | [d1, d2, d3, d4] => { results := [.lit (.bool true)], args := [d1, d2, d3, d4] }
  | _ => none }
def fnExactTangentsFromRow : OpenClaim := { program := "ythaopanhdmakbaa", sum := "b887df855e14fe829a282fe628bcd0f2217e522848546962d050676c0c16c79a", func := "loop.example/g01370/laws.FnExactTangentsFrom", spec := "fnExactTangentsFrom", inPlace := ["internal/reflectlite.ValueOf", "internal/reflectlite.Swapper", "(internal/reflectlite.Value).Len"], unfollowed := true, recurses := true, plainKeys := false, apart := false }
def FnExactTangentsFromSaid : Prop := fnExactTangentsFromRow.holds Try.pinned (OpenSpec.ofChange fnExactTangentsFromSpec)

/-- ITS FALSE NEIGHBOUR: 'it returns false'. Refute it at one input. -/
def fnExactTangentsFromWrong : ChangeSpec := { name := "fnExactTangentsFrom", fn := fun _ => fun
  | [d1, d2, d3, d4] => { results := [.lit (.bool false)], args := [d1, d2, d3, d4] }
  | _ => none }
def FnExactTangentsFromWrongFalsely : Prop := fnExactTangentsFromRow.holds Try.pinned (OpenSpec.ofChange fnExactTangentsFromWrong)

/- THE SECOND FORM. 'bulk': how many values and letters a reading holds, each counted each time it is reached (what is shared counts as often as it is met; a slice's spare places count too). A statement '..UptoSaid' is the law's where the arguments, and the package variables that the reading takes, are together of bulk at most 1048576: NARROWER than '..Said'. Prove '..Said' where nothing that the law and all that it calls make is longer than what came in: it says more and counts as full. Else prove '..UptoSaid'. A law counts once. -/
mutual
def uptoBulk {H : Type} : DataW H → Nat
  | .lit (.string bytes) => bytes.length + 1
  | .lit _ => 1
  | .nil => 1
  | .ptr d => uptoBulk d + 1
  | .slice elems spare => uptoBulkAll elems + uptoBulkAll spare + 1
  | .agg parts => uptoBulkAll parts + 1
  | .iface _ d => uptoBulk d + 1
  | .map entries => uptoBulkEntries entries + 1
  | .held _ => 1
def uptoBulkAll {H : Type} : List (DataW H) → Nat
  | [] => 0
  | d :: r => uptoBulk d + uptoBulkAll r
def uptoBulkEntries {H : Type} : List (Lit × DataW H) → Nat
  | [] => 0
  | x :: r => uptoBulkEntry x + uptoBulkEntries r
def uptoBulkEntry {H : Type} : Lit × DataW H → Nat
  | (.string bytes, d) => bytes.length + uptoBulk d + 1
  | (_, d) => uptoBulk d + 1
 end
def uptoSmall : (H : Type) → List (DataW H) → Bool := fun _ ds => decide (uptoBulkAll ds ≤ 1048576)
def OpenSpec.upto (s : _root_.Go.ChangeSpec) : _root_.Go.OpenSpec := { _root_.Go.OpenSpec.ofChange s with cond := some uptoSmall }

/-- 'laws.FnExactIsCircle', WHERE WHAT IT READS IS OF BULK AT MOST 1048576: true; the input reads as it did. -/
def fnExactIsCircleUptoRow : OpenClaim := { program := "ythaopanhdmakbaa", sum := "b887df855e14fe829a282fe628bcd0f2217e522848546962d050676c0c16c79a", func := "loop.example/g01370/laws.FnExactIsCircle", spec := "fnExactIsCircle", plainKeys := false, apart := false, narrowed := true }
def FnExactIsCircleUptoSaid : Prop := fnExactIsCircleUptoRow.holds Try.pinned (OpenSpec.upto fnExactIsCircleSpec)

/-- 'laws.FnExactPowerOf', WHERE WHAT IT READS IS OF BULK AT MOST 1048576: true; the input reads as it did. -/
def fnExactPowerOfUptoRow : OpenClaim := { program := "ythaopanhdmakbaa", sum := "b887df855e14fe829a282fe628bcd0f2217e522848546962d050676c0c16c79a", func := "loop.example/g01370/laws.FnExactPowerOf", spec := "fnExactPowerOf", unfollowed := true, recurses := true, plainKeys := false, apart := false, narrowed := true }
def FnExactPowerOfUptoSaid : Prop := fnExactPowerOfUptoRow.holds Try.pinned (OpenSpec.upto fnExactPowerOfSpec)

/-- 'laws.FnExactInversePoint', WHERE WHAT IT READS IS OF BULK AT MOST 1048576: true; the input reads as it did. -/
def fnExactInversePointUptoRow : OpenClaim := { program := "ythaopanhdmakbaa", sum := "b887df855e14fe829a282fe628bcd0f2217e522848546962d050676c0c16c79a", func := "loop.example/g01370/laws.FnExactInversePoint", spec := "fnExactInversePoint", unfollowed := true, recurses := true, plainKeys := false, apart := false, narrowed := true }
def FnExactInversePointUptoSaid : Prop := fnExactInversePointUptoRow.holds Try.pinned (OpenSpec.upto fnExactInversePointSpec)

/-- 'laws.FnExactRadicalLine', WHERE WHAT IT READS IS OF BULK AT MOST 1048576: true; the input reads as it did. -/
def fnExactRadicalLineUptoRow : OpenClaim := { program := "ythaopanhdmakbaa", sum := "b887df855e14fe829a282fe628bcd0f2217e522848546962d050676c0c16c79a", func := "loop.example/g01370/laws.FnExactRadicalLine", spec := "fnExactRadicalLine", unfollowed := true, recurses := true, plainKeys := false, apart := false, narrowed := true }
def FnExactRadicalLineUptoSaid : Prop := fnExactRadicalLineUptoRow.holds Try.pinned (OpenSpec.upto fnExactRadicalLineSpec)

/-- 'laws.FnExactMeetCircles', WHERE WHAT IT READS IS OF BULK AT MOST 1048576: true; the input reads as it did. -/
def fnExactMeetCirclesUptoRow : OpenClaim := { program := "ythaopanhdmakbaa", sum := "b887df855e14fe829a282fe628bcd0f2217e522848546962d050676c0c16c79a", func := "loop.example/g01370/laws.FnExactMeetCircles", spec := "fnExactMeetCircles", unfollowed := true, recurses := true, plainKeys := false, apart := false, narrowed := true }
def FnExactMeetCirclesUptoSaid : Prop := fnExactMeetCirclesUptoRow.holds Try.pinned (OpenSpec.upto fnExactMeetCirclesSpec)

/-- 'laws.FnExactRadicalCentre', WHERE WHAT IT READS IS OF BULK AT MOST 1048576: true; the input reads as it did. -/
def fnExactRadicalCentreUptoRow : OpenClaim := { program := "ythaopanhdmakbaa", sum := "b887df855e14fe829a282fe628bcd0f2217e522848546962d050676c0c16c79a", func := "loop.example/g01370/laws.FnExactRadicalCentre", spec := "fnExactRadicalCentre", unfollowed := true, recurses := true, plainKeys := false, apart := false, narrowed := true }
def FnExactRadicalCentreUptoSaid : Prop := fnExactRadicalCentreUptoRow.holds Try.pinned (OpenSpec.upto fnExactRadicalCentreSpec)

/-- 'laws.FnExactAreCyclic', WHERE WHAT IT READS IS OF BULK AT MOST 1048576: true; the input reads as it did. -/
def fnExactAreCyclicUptoRow : OpenClaim := { program := "ythaopanhdmakbaa", sum := "b887df855e14fe829a282fe628bcd0f2217e522848546962d050676c0c16c79a", func := "loop.example/g01370/laws.FnExactAreCyclic", spec := "fnExactAreCyclic", unfollowed := true, recurses := true, plainKeys := false, apart := false, narrowed := true }
def FnExactAreCyclicUptoSaid : Prop := fnExactAreCyclicUptoRow.holds Try.pinned (OpenSpec.upto fnExactAreCyclicSpec)

/-- 'laws.FnExactTangentAt', WHERE WHAT IT READS IS OF BULK AT MOST 1048576: true; the input reads as it did. -/
def fnExactTangentAtUptoRow : OpenClaim := { program := "ythaopanhdmakbaa", sum := "b887df855e14fe829a282fe628bcd0f2217e522848546962d050676c0c16c79a", func := "loop.example/g01370/laws.FnExactTangentAt", spec := "fnExactTangentAt", unfollowed := true, recurses := true, plainKeys := false, apart := false, narrowed := true }
def FnExactTangentAtUptoSaid : Prop := fnExactTangentAtUptoRow.holds Try.pinned (OpenSpec.upto fnExactTangentAtSpec)

/-- 'laws.FnExactCircleThrough', WHERE WHAT IT READS IS OF BULK AT MOST 1048576: true; the input reads as it did. -/
def fnExactCircleThroughUptoRow : OpenClaim := { program := "ythaopanhdmakbaa", sum := "b887df855e14fe829a282fe628bcd0f2217e522848546962d050676c0c16c79a", func := "loop.example/g01370/laws.FnExactCircleThrough", spec := "fnExactCircleThrough", unfollowed := true, recurses := true, plainKeys := false, apart := false, narrowed := true }
def FnExactCircleThroughUptoSaid : Prop := fnExactCircleThroughUptoRow.holds Try.pinned (OpenSpec.upto fnExactCircleThroughSpec)

/-- 'laws.FnExactMeetLine', WHERE WHAT IT READS IS OF BULK AT MOST 1048576: true; the input reads as it did. -/
def fnExactMeetLineUptoRow : OpenClaim := { program := "ythaopanhdmakbaa", sum := "b887df855e14fe829a282fe628bcd0f2217e522848546962d050676c0c16c79a", func := "loop.example/g01370/laws.FnExactMeetLine", spec := "fnExactMeetLine", unfollowed := true, recurses := true, plainKeys := false, apart := false, narrowed := true }
def FnExactMeetLineUptoSaid : Prop := fnExactMeetLineUptoRow.holds Try.pinned (OpenSpec.upto fnExactMeetLineSpec)

/-- 'laws.FnExactTangentsFrom', WHERE WHAT IT READS IS OF BULK AT MOST 1048576: true; the input reads as it did. -/
def fnExactTangentsFromUptoRow : OpenClaim := { program := "ythaopanhdmakbaa", sum := "b887df855e14fe829a282fe628bcd0f2217e522848546962d050676c0c16c79a", func := "loop.example/g01370/laws.FnExactTangentsFrom", spec := "fnExactTangentsFrom", inPlace := ["internal/reflectlite.ValueOf", "internal/reflectlite.Swapper", "(internal/reflectlite.Value).Len"], unfollowed := true, recurses := true, plainKeys := false, apart := false, narrowed := true }
def FnExactTangentsFromUptoSaid : Prop := fnExactTangentsFromUptoRow.holds Try.pinned (OpenSpec.upto fnExactTangentsFromSpec)

end Rows
end Go.Proofs.Ythaopanhdmakbaa
