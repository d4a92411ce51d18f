/-
  No cell of these rows narrows 'for every input' (looked for: loops, veiled, ifaces, maps, wideKeys, modest, calm, conditions, laid).
  DERIVED. THE GIVEN ROWS OF THIS SEAT. 12 by the template 'for every input the law returns true; each argument reads behind the call as it read before'; 0 by the template 'total and deterministic' (their statements: YthmfgkdhaookoaaTotals.lean).
  GIVEN WITH THE SEED: the statements are not yours to turn. If you find one false, say at which input.
  Laid BY PROGRAM, IN A SANDBOX (cutbox-rows.mjs): the forced cells as the released guide's own fill.sh prints them over the translation 551a42986448158a… (all of the seat's roots in one cut). By AI agents, Wed Nov 11 2026. No macro, syntax, notation, axiom, sorry.
-/
import Derived.Test.YthmfgkdhaookoaaChecked
import GoSem.Claim
import GoSem.ClaimJoined
import GoSem.ClaimMapViews
import Derived.JoinedTies
import Derived.KernelRfl
namespace Go.Proofs.Ythmfgkdhaookoaa
/- THE CELL 'sum', in the pinned program and in every row, IS THE sha256 OF THE DUMP (.gsa) THAT YthmfgkdhaookoaaProg.lean LOADS. Nothing in Lean hashes anything: it is a label: what it is worth is what the hold of that sum in a sandbox is worth. -/
noncomputable def Try.pinned : Pinned := { name := "ythmfgkdhaookoaa", sum := "551a42986448158a1883fd2dd09510c86ae3e1328f727ad154b447c44bed6af6", checked := Try.checked }
namespace Rows
def none {H : Type} : Left H := { results := [], args := [] }

/-- 'laws.FnExactSpreadPolynomial': WHATEVER THE INPUT: true; the input reads as it did. -/
def fnExactSpreadPolynomialSpec : ChangeSpec := { name := "fnExactSpreadPolynomial", fn := fun _ => fun
  | [d1, d2, d3] => { results := [.lit (.bool true)], args := [d1, d2, d3] }
  | _ => none }
def fnExactSpreadPolynomialRow : OpenClaim := { program := "ythmfgkdhaookoaa", sum := "551a42986448158a1883fd2dd09510c86ae3e1328f727ad154b447c44bed6af6", func := "loop.example/g01370/laws.FnExactSpreadPolynomial", spec := "fnExactSpreadPolynomial", unfollowed := true, recurses := true, apart := false }
def FnExactSpreadPolynomialSaid : Prop := fnExactSpreadPolynomialRow.holds Try.pinned (OpenSpec.ofChange fnExactSpreadPolynomialSpec)

/-- ITS FALSE NEIGHBOUR: 'it returns false'. Refute it at one input. -/
def fnExactSpreadPolynomialWrong : ChangeSpec := { name := "fnExactSpreadPolynomial", fn := fun _ => fun
  | [d1, d2, d3] => { results := [.lit (.bool false)], args := [d1, d2, d3] }
  | _ => none }
def FnExactSpreadPolynomialWrongFalsely : Prop := fnExactSpreadPolynomialRow.holds Try.pinned (OpenSpec.ofChange fnExactSpreadPolynomialWrong)

/-- 'laws.FnExactPeriodOfSpread': WHATEVER THE INPUT: true; the input reads as it did. -/
def fnExactPeriodOfSpreadSpec : ChangeSpec := { name := "fnExactPeriodOfSpread", fn := fun _ => fun
  | [d1, d2] => { results := [.lit (.bool true)], args := [d1, d2] }
  | _ => none }
def fnExactPeriodOfSpreadRow : OpenClaim := { program := "ythmfgkdhaookoaa", sum := "551a42986448158a1883fd2dd09510c86ae3e1328f727ad154b447c44bed6af6", func := "loop.example/g01370/laws.FnExactPeriodOfSpread", spec := "fnExactPeriodOfSpread", unfollowed := true, recurses := true, apart := false }
def FnExactPeriodOfSpreadSaid : Prop := fnExactPeriodOfSpreadRow.holds Try.pinned (OpenSpec.ofChange fnExactPeriodOfSpreadSpec)

/-- ITS FALSE NEIGHBOUR: 'it returns false'. Refute it at one input. -/
def fnExactPeriodOfSpreadWrong : ChangeSpec := { name := "fnExactPeriodOfSpread", fn := fun _ => fun
  | [d1, d2] => { results := [.lit (.bool false)], args := [d1, d2] }
  | _ => none }
def FnExactPeriodOfSpreadWrongFalsely : Prop := fnExactPeriodOfSpreadRow.holds Try.pinned (OpenSpec.ofChange fnExactPeriodOfSpreadWrong)

/-- 'laws.FnExactOrderOfSpread': WHATEVER THE INPUT: true; the input reads as it did. -/
def fnExactOrderOfSpreadSpec : ChangeSpec := { name := "fnExactOrderOfSpread", fn := fun _ => fun
  | [d1, d2] => { results := [.lit (.bool true)], args := [d1, d2] }
  | _ => none }
def fnExactOrderOfSpreadRow : OpenClaim := { program := "ythmfgkdhaookoaa", sum := "551a42986448158a1883fd2dd09510c86ae3e1328f727ad154b447c44bed6af6", func := "loop.example/g01370/laws.FnExactOrderOfSpread", spec := "fnExactOrderOfSpread", unfollowed := true, recurses := true, apart := false }
def FnExactOrderOfSpreadSaid : Prop := fnExactOrderOfSpreadRow.holds Try.pinned (OpenSpec.ofChange fnExactOrderOfSpreadSpec)

/-- ITS FALSE NEIGHBOUR: 'it returns false'. Refute it at one input. -/
def fnExactOrderOfSpreadWrong : ChangeSpec := { name := "fnExactOrderOfSpread", fn := fun _ => fun
  | [d1, d2] => { results := [.lit (.bool false)], args := [d1, d2] }
  | _ => none }
def FnExactOrderOfSpreadWrongFalsely : Prop := fnExactOrderOfSpreadRow.holds Try.pinned (OpenSpec.ofChange fnExactOrderOfSpreadWrong)

/-- 'laws.FnExactIsPermutation': WHATEVER THE INPUT: true; the input reads as it did. -/
def fnExactIsPermutationSpec : ChangeSpec := { name := "fnExactIsPermutation", fn := fun _ => fun
  | [d1, d2] => { results := [.lit (.bool true)], args := [d1, d2] }
  | _ => none }
def fnExactIsPermutationRow : OpenClaim := { program := "ythmfgkdhaookoaa", sum := "551a42986448158a1883fd2dd09510c86ae3e1328f727ad154b447c44bed6af6", func := "loop.example/g01370/laws.FnExactIsPermutation", spec := "fnExactIsPermutation", unfollowed := true, recurses := true, apart := false }
def FnExactIsPermutationSaid : Prop := fnExactIsPermutationRow.holds Try.pinned (OpenSpec.ofChange fnExactIsPermutationSpec)

/-- ITS FALSE NEIGHBOUR: 'it returns false'. Refute it at one input. -/
def fnExactIsPermutationWrong : ChangeSpec := { name := "fnExactIsPermutation", fn := fun _ => fun
  | [d1, d2] => { results := [.lit (.bool false)], args := [d1, d2] }
  | _ => none }
def FnExactIsPermutationWrongFalsely : Prop := fnExactIsPermutationRow.holds Try.pinned (OpenSpec.ofChange fnExactIsPermutationWrong)

/-- 'laws.FnExactWalkRound': WHATEVER THE INPUT: true; the input reads as it did. -/
def fnExactWalkRoundSpec : ChangeSpec := { name := "fnExactWalkRound", fn := fun _ => fun
  | [d1, d2, d3] => { results := [.lit (.bool true)], args := [d1, d2, d3] }
  | _ => none }
def fnExactWalkRoundRow : OpenClaim := { program := "ythmfgkdhaookoaa", sum := "551a42986448158a1883fd2dd09510c86ae3e1328f727ad154b447c44bed6af6", func := "loop.example/g01370/laws.FnExactWalkRound", spec := "fnExactWalkRound", unfollowed := true, recurses := true, apart := false }
def FnExactWalkRoundSaid : Prop := fnExactWalkRoundRow.holds Try.pinned (OpenSpec.ofChange fnExactWalkRoundSpec)

/-- ITS FALSE NEIGHBOUR: 'it returns false'. Refute it at one input. -/
def fnExactWalkRoundWrong : ChangeSpec := { name := "fnExactWalkRound", fn := fun _ => fun
  | [d1, d2, d3] => { results := [.lit (.bool false)], args := [d1, d2, d3] }
  | _ => none }
def FnExactWalkRoundWrongFalsely : Prop := fnExactWalkRoundRow.holds Try.pinned (OpenSpec.ofChange fnExactWalkRoundWrong)

/-- 'laws.FnExactValuesOf': WHATEVER THE INPUT: true; the input reads as it did. -/
def fnExactValuesOfSpec : ChangeSpec := { name := "fnExactValuesOf", fn := fun _ => fun
  | [d1, d2] => { results := [.lit (.bool true)], args := [d1, d2] }
  | _ => none }
def fnExactValuesOfRow : OpenClaim := { program := "ythmfgkdhaookoaa", sum := "551a42986448158a1883fd2dd09510c86ae3e1328f727ad154b447c44bed6af6", func := "loop.example/g01370/laws.FnExactValuesOf", spec := "fnExactValuesOf", unfollowed := true, recurses := true, apart := false }
def FnExactValuesOfSaid : Prop := fnExactValuesOfRow.holds Try.pinned (OpenSpec.ofChange fnExactValuesOfSpec)

/-- ITS FALSE NEIGHBOUR: 'it returns false'. Refute it at one input. -/
def fnExactValuesOfWrong : ChangeSpec := { name := "fnExactValuesOf", fn := fun _ => fun
  | [d1, d2] => { results := [.lit (.bool false)], args := [d1, d2] }
  | _ => none }
def FnExactValuesOfWrongFalsely : Prop := fnExactValuesOfRow.holds Try.pinned (OpenSpec.ofChange fnExactValuesOfWrong)

/-- 'laws.FnExactCoefficientsOf': WHATEVER THE INPUT: true; the input reads as it did. -/
def fnExactCoefficientsOfSpec : ChangeSpec := { name := "fnExactCoefficientsOf", fn := fun _ => fun
  | [d1, d2] => { results := [.lit (.bool true)], args := [d1, d2] }
  | _ => none }
def fnExactCoefficientsOfRow : OpenClaim := { program := "ythmfgkdhaookoaa", sum := "551a42986448158a1883fd2dd09510c86ae3e1328f727ad154b447c44bed6af6", func := "loop.example/g01370/laws.FnExactCoefficientsOf", spec := "fnExactCoefficientsOf", unfollowed := true, recurses := true, apart := false }
def FnExactCoefficientsOfSaid : Prop := fnExactCoefficientsOfRow.holds Try.pinned (OpenSpec.ofChange fnExactCoefficientsOfSpec)

/-- ITS FALSE NEIGHBOUR: 'it returns false'. Refute it at one input. -/
def fnExactCoefficientsOfWrong : ChangeSpec := { name := "fnExactCoefficientsOf", fn := fun _ => fun
  | [d1, d2] => { results := [.lit (.bool false)], args := [d1, d2] }
  | _ => none }
def FnExactCoefficientsOfWrongFalsely : Prop := fnExactCoefficientsOfRow.holds Try.pinned (OpenSpec.ofChange fnExactCoefficientsOfWrong)

/-- 'laws.FnExactZerosOf': WHATEVER THE INPUT: true; the input reads as it did. -/
def fnExactZerosOfSpec : ChangeSpec := { name := "fnExactZerosOf", fn := fun _ => fun
  | [d1, d2] => { results := [.lit (.bool true)], args := [d1, d2] }
  | _ => none }
def fnExactZerosOfRow : OpenClaim := { program := "ythmfgkdhaookoaa", sum := "551a42986448158a1883fd2dd09510c86ae3e1328f727ad154b447c44bed6af6", func := "loop.example/g01370/laws.FnExactZerosOf", spec := "fnExactZerosOf", unfollowed := true, recurses := true, apart := false }
def FnExactZerosOfSaid : Prop := fnExactZerosOfRow.holds Try.pinned (OpenSpec.ofChange fnExactZerosOfSpec)

/-- ITS FALSE NEIGHBOUR: 'it returns false'. Refute it at one input. -/
def fnExactZerosOfWrong : ChangeSpec := { name := "fnExactZerosOf", fn := fun _ => fun
  | [d1, d2] => { results := [.lit (.bool false)], args := [d1, d2] }
  | _ => none }
def FnExactZerosOfWrongFalsely : Prop := fnExactZerosOfRow.holds Try.pinned (OpenSpec.ofChange fnExactZerosOfWrong)

/-- 'laws.FnExactWalkOf': WHATEVER THE INPUT: true; the input reads as it did. -/
def fnExactWalkOfSpec : ChangeSpec := { name := "fnExactWalkOf", fn := fun _ => fun
  | [d1, d2, d3, d4] => { results := [.lit (.bool true)], args := [d1, d2, d3, d4] }
  | _ => none }
def fnExactWalkOfRow : OpenClaim := { program := "ythmfgkdhaookoaa", sum := "551a42986448158a1883fd2dd09510c86ae3e1328f727ad154b447c44bed6af6", func := "loop.example/g01370/laws.FnExactWalkOf", spec := "fnExactWalkOf", unfollowed := true, recurses := true, apart := false }
def FnExactWalkOfSaid : Prop := fnExactWalkOfRow.holds Try.pinned (OpenSpec.ofChange fnExactWalkOfSpec)

/-- ITS FALSE NEIGHBOUR: 'it returns false'. Refute it at one input. -/
def fnExactWalkOfWrong : ChangeSpec := { name := "fnExactWalkOf", fn := fun _ => fun
  | [d1, d2, d3, d4] => { results := [.lit (.bool false)], args := [d1, d2, d3, d4] }
  | _ => none }
def FnExactWalkOfWrongFalsely : Prop := fnExactWalkOfRow.holds Try.pinned (OpenSpec.ofChange fnExactWalkOfWrong)

/-- 'laws.FnExactLedTo': WHATEVER THE INPUT: true; the input reads as it did. -/
def fnExactLedToSpec : ChangeSpec := { name := "fnExactLedTo", fn := fun _ => fun
  | [d1, d2, d3] => { results := [.lit (.bool true)], args := [d1, d2, d3] }
  | _ => none }
def fnExactLedToRow : OpenClaim := { program := "ythmfgkdhaookoaa", sum := "551a42986448158a1883fd2dd09510c86ae3e1328f727ad154b447c44bed6af6", func := "loop.example/g01370/laws.FnExactLedTo", spec := "fnExactLedTo", unfollowed := true, recurses := true, apart := false }
def FnExactLedToSaid : Prop := fnExactLedToRow.holds Try.pinned (OpenSpec.ofChange fnExactLedToSpec)

/-- ITS FALSE NEIGHBOUR: 'it returns false'. Refute it at one input. -/
def fnExactLedToWrong : ChangeSpec := { name := "fnExactLedTo", fn := fun _ => fun
  | [d1, d2, d3] => { results := [.lit (.bool false)], args := [d1, d2, d3] }
  | _ => none }
def FnExactLedToWrongFalsely : Prop := fnExactLedToRow.holds Try.pinned (OpenSpec.ofChange fnExactLedToWrong)

/-- 'laws.FnExactOrdersOf': WHATEVER THE INPUT: true; the input reads as it did. -/
def fnExactOrdersOfSpec : ChangeSpec := { name := "fnExactOrdersOf", fn := fun _ => fun
  | [d] => { results := [.lit (.bool true)], args := [d] }
  | _ => none }
def fnExactOrdersOfRow : OpenClaim := { program := "ythmfgkdhaookoaa", sum := "551a42986448158a1883fd2dd09510c86ae3e1328f727ad154b447c44bed6af6", func := "loop.example/g01370/laws.FnExactOrdersOf", spec := "fnExactOrdersOf", apart := false }
def FnExactOrdersOfSaid : Prop := fnExactOrdersOfRow.holds Try.pinned (OpenSpec.ofChange fnExactOrdersOfSpec)

/-- ITS FALSE NEIGHBOUR: 'it returns false'. Refute it at one input. -/
def fnExactOrdersOfWrong : ChangeSpec := { name := "fnExactOrdersOf", fn := fun _ => fun
  | [d] => { results := [.lit (.bool false)], args := [d] }
  | _ => none }
def FnExactOrdersOfWrongFalsely : Prop := fnExactOrdersOfRow.holds Try.pinned (OpenSpec.ofChange fnExactOrdersOfWrong)

/-- 'laws.FnExactSpreadsOfOrder': WHATEVER THE INPUT: true; the input reads as it did. -/
def fnExactSpreadsOfOrderSpec : ChangeSpec := { name := "fnExactSpreadsOfOrder", fn := fun _ => fun
  | [d1, d2] => { results := [.lit (.bool true)], args := [d1, d2] }
  | _ => none }
def fnExactSpreadsOfOrderRow : OpenClaim := { program := "ythmfgkdhaookoaa", sum := "551a42986448158a1883fd2dd09510c86ae3e1328f727ad154b447c44bed6af6", func := "loop.example/g01370/laws.FnExactSpreadsOfOrder", spec := "fnExactSpreadsOfOrder", unfollowed := true, recurses := true, apart := false }
def FnExactSpreadsOfOrderSaid : Prop := fnExactSpreadsOfOrderRow.holds Try.pinned (OpenSpec.ofChange fnExactSpreadsOfOrderSpec)

/-- ITS FALSE NEIGHBOUR: 'it returns false'. Refute it at one input. -/
def fnExactSpreadsOfOrderWrong : ChangeSpec := { name := "fnExactSpreadsOfOrder", fn := fun _ => fun
  | [d1, d2] => { results := [.lit (.bool false)], args := [d1, d2] }
  | _ => none }
def FnExactSpreadsOfOrderWrongFalsely : Prop := fnExactSpreadsOfOrderRow.holds Try.pinned (OpenSpec.ofChange fnExactSpreadsOfOrderWrong)

/- THE SECOND FORM. 'bulk': how many values and letters a reading holds, each counted each time it is reached (what is shared counts as often as it is met; a slice's spare places count too). A statement '..UptoSaid' is the law's where the arguments, and the package variables that the reading takes, are together of bulk at most 1048576: NARROWER than '..Said'. Prove '..Said' where nothing that the law and all that it calls make is longer than what came in: it says more and counts as full. Else prove '..UptoSaid'. A law counts once. -/
mutual
def uptoBulk {H : Type} : DataW H → Nat
  | .lit (.string bytes) => bytes.length + 1
  | .lit _ => 1
  | .nil => 1
  | .ptr d => uptoBulk d + 1
  | .slice elems spare => uptoBulkAll elems + uptoBulkAll spare + 1
  | .agg parts => uptoBulkAll parts + 1
  | .iface _ d => uptoBulk d + 1
  | .map entries => uptoBulkEntries entries + 1
  | .held _ => 1
def uptoBulkAll {H : Type} : List (DataW H) → Nat
  | [] => 0
  | d :: r => uptoBulk d + uptoBulkAll r
def uptoBulkEntries {H : Type} : List (Lit × DataW H) → Nat
  | [] => 0
  | x :: r => uptoBulkEntry x + uptoBulkEntries r
def uptoBulkEntry {H : Type} : Lit × DataW H → Nat
  | (.string bytes, d) => bytes.length + uptoBulk d + 1
  | (_, d) => uptoBulk d + 1
 end
def uptoSmall : (H : Type) → List (DataW H) → Bool := fun _ ds => decide (uptoBulkAll ds ≤ 1048576)
def OpenSpec.upto (s : _root_.Go.ChangeSpec) : _root_.Go.OpenSpec := { _root_.Go.OpenSpec.ofChange s with cond := some uptoSmall }

/-- 'laws.FnExactSpreadPolynomial', WHERE WHAT IT READS IS OF BULK AT MOST 1048576: true; the input reads as it did. -/
def fnExactSpreadPolynomialUptoRow : OpenClaim := { program := "ythmfgkdhaookoaa", sum := "551a42986448158a1883fd2dd09510c86ae3e1328f727ad154b447c44bed6af6", func := "loop.example/g01370/laws.FnExactSpreadPolynomial", spec := "fnExactSpreadPolynomial", unfollowed := true, recurses := true, apart := false, narrowed := true }
def FnExactSpreadPolynomialUptoSaid : Prop := fnExactSpreadPolynomialUptoRow.holds Try.pinned (OpenSpec.upto fnExactSpreadPolynomialSpec)

/-- 'laws.FnExactPeriodOfSpread', WHERE WHAT IT READS IS OF BULK AT MOST 1048576: true; the input reads as it did. -/
def fnExactPeriodOfSpreadUptoRow : OpenClaim := { program := "ythmfgkdhaookoaa", sum := "551a42986448158a1883fd2dd09510c86ae3e1328f727ad154b447c44bed6af6", func := "loop.example/g01370/laws.FnExactPeriodOfSpread", spec := "fnExactPeriodOfSpread", unfollowed := true, recurses := true, apart := false, narrowed := true }
def FnExactPeriodOfSpreadUptoSaid : Prop := fnExactPeriodOfSpreadUptoRow.holds Try.pinned (OpenSpec.upto fnExactPeriodOfSpreadSpec)

/-- 'laws.FnExactOrderOfSpread', WHERE WHAT IT READS IS OF BULK AT MOST 1048576: true; the input reads as it did. -/
def fnExactOrderOfSpreadUptoRow : OpenClaim := { program := "ythmfgkdhaookoaa", sum := "551a42986448158a1883fd2dd09510c86ae3e1328f727ad154b447c44bed6af6", func := "loop.example/g01370/laws.FnExactOrderOfSpread", spec := "fnExactOrderOfSpread", unfollowed := true, recurses := true, apart := false, narrowed := true }
def FnExactOrderOfSpreadUptoSaid : Prop := fnExactOrderOfSpreadUptoRow.holds Try.pinned (OpenSpec.upto fnExactOrderOfSpreadSpec)

/-- 'laws.FnExactIsPermutation', WHERE WHAT IT READS IS OF BULK AT MOST 1048576: true; the input reads as it did. -/
def fnExactIsPermutationUptoRow : OpenClaim := { program := "ythmfgkdhaookoaa", sum := "551a42986448158a1883fd2dd09510c86ae3e1328f727ad154b447c44bed6af6", func := "loop.example/g01370/laws.FnExactIsPermutation", spec := "fnExactIsPermutation", unfollowed := true, recurses := true, apart := false, narrowed := true }
def FnExactIsPermutationUptoSaid : Prop := fnExactIsPermutationUptoRow.holds Try.pinned (OpenSpec.upto fnExactIsPermutationSpec)

/-- 'laws.FnExactWalkRound', WHERE WHAT IT READS IS OF BULK AT MOST 1048576: true; the input reads as it did. -/
def fnExactWalkRoundUptoRow : OpenClaim := { program := "ythmfgkdhaookoaa", sum := "551a42986448158a1883fd2dd09510c86ae3e1328f727ad154b447c44bed6af6", func := "loop.example/g01370/laws.FnExactWalkRound", spec := "fnExactWalkRound", unfollowed := true, recurses := true, apart := false, narrowed := true }
def FnExactWalkRoundUptoSaid : Prop := fnExactWalkRoundUptoRow.holds Try.pinned (OpenSpec.upto fnExactWalkRoundSpec)

/-- 'laws.FnExactValuesOf', WHERE WHAT IT READS IS OF BULK AT MOST 1048576: true; the input reads as it did. -/
def fnExactValuesOfUptoRow : OpenClaim := { program := "ythmfgkdhaookoaa", sum := "551a42986448158a1883fd2dd09510c86ae3e1328f727ad154b447c44bed6af6", func := "loop.example/g01370/laws.FnExactValuesOf", spec := "fnExactValuesOf", unfollowed := true, recurses := true, apart := false, narrowed := true }
def FnExactValuesOfUptoSaid : Prop := fnExactValuesOfUptoRow.holds Try.pinned (OpenSpec.upto fnExactValuesOfSpec)

/-- 'laws.FnExactCoefficientsOf', WHERE WHAT IT READS IS OF BULK AT MOST 1048576: true; the input reads as it did. -/
def fnExactCoefficientsOfUptoRow : OpenClaim := { program := "ythmfgkdhaookoaa", sum := "551a42986448158a1883fd2dd09510c86ae3e1328f727ad154b447c44bed6af6", func := "loop.example/g01370/laws.FnExactCoefficientsOf", spec := "fnExactCoefficientsOf", unfollowed := true, recurses := true, apart := false, narrowed := true }
def FnExactCoefficientsOfUptoSaid : Prop := fnExactCoefficientsOfUptoRow.holds Try.pinned (OpenSpec.upto fnExactCoefficientsOfSpec)

/-- 'laws.FnExactZerosOf', WHERE WHAT IT READS IS OF BULK AT MOST 1048576: true; the input reads as it did. -/
def fnExactZerosOfUptoRow : OpenClaim := { program := "ythmfgkdhaookoaa", sum := "551a42986448158a1883fd2dd09510c86ae3e1328f727ad154b447c44bed6af6", func := "loop.example/g01370/laws.FnExactZerosOf", spec := "fnExactZerosOf", unfollowed := true, recurses := true, apart := false, narrowed := true }
def FnExactZerosOfUptoSaid : Prop := fnExactZerosOfUptoRow.holds Try.pinned (OpenSpec.upto fnExactZerosOfSpec)

/-- 'laws.FnExactWalkOf', WHERE WHAT IT READS IS OF BULK AT MOST 1048576: true; the input reads as it did. -/
def fnExactWalkOfUptoRow : OpenClaim := { program := "ythmfgkdhaookoaa", sum := "551a42986448158a1883fd2dd09510c86ae3e1328f727ad154b447c44bed6af6", func := "loop.example/g01370/laws.FnExactWalkOf", spec := "fnExactWalkOf", unfollowed := true, recurses := true, apart := false, narrowed := true }
def FnExactWalkOfUptoSaid : Prop := fnExactWalkOfUptoRow.holds Try.pinned (OpenSpec.upto fnExactWalkOfSpec)

/-- 'laws.FnExactLedTo', WHERE WHAT IT READS IS OF BULK AT MOST 1048576: true; the input reads as it did. -/
def fnExactLedToUptoRow : OpenClaim := { program := "ythmfgkdhaookoaa", sum := "551a42986448158a1883fd2dd09510c86ae3e1328f727ad154b447c44bed6af6", func := "loop.example/g01370/laws.FnExactLedTo", spec := "fnExactLedTo", unfollowed := true, recurses := true, apart := false, narrowed := true }
def FnExactLedToUptoSaid : Prop := fnExactLedToUptoRow.holds Try.pinned (OpenSpec.upto fnExactLedToSpec)

/-- 'laws.FnExactOrdersOf', WHERE WHAT IT READS IS OF BULK AT MOST 1048576: true; the input reads as it did. -/
def fnExactOrdersOfUptoRow : OpenClaim := { program := "ythmfgkdhaookoaa", sum := "551a42986448158a1883fd2dd09510c86ae3e1328f727ad154b447c44bed6af6", func := "loop.example/g01370/laws.FnExactOrdersOf", spec := "fnExactOrdersOf", apart := false, narrowed := true }
def FnExactOrdersOfUptoSaid : Prop := fnExactOrdersOfUptoRow.holds Try.pinned (OpenSpec.upto fnExactOrdersOfSpec)

/-- 'laws.FnExactSpreadsOfOrder', WHERE WHAT IT READS IS OF BULK AT MOST 1048576: true; the input reads as it did. -/
def fnExactSpreadsOfOrderUptoRow : OpenClaim := { program := "ythmfgkdhaookoaa", sum := "551a42986448158a1883fd2dd09510c86ae3e1328f727ad154b447c44bed6af6", func := "loop.example/g01370/laws.FnExactSpreadsOfOrder", spec := "fnExactSpreadsOfOrder", unfollowed := true, recurses := true, apart := false, narrowed := true }
def FnExactSpreadsOfOrderUptoSaid : Prop := fnExactSpreadsOfOrderUptoRow.holds Try.pinned (OpenSpec.upto fnExactSpreadsOfOrderSpec)

end Rows
end Go.Proofs.Ythmfgkdhaookoaa
