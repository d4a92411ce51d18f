/-
  DERIVED. GIVEN WITH THE SEED: THE CARDS: each row of YthpbbnffgfjdbaaDoorRows.lean that lists a variable, with what it lists TIED to the program's text (the seventh form; the later family's looks); each row that meets fmt, with fmt's text TOLD by the authors' own Lean function (tested against real Go, not proved from fmt's source: count such statements apart). THE CARD IS WHAT COUNTS. Prove the row's statement (the work); the ties are given (YthpbbnffgfjdbaaDoorTie.lean); close each card by the builder's one call (the guide's Derived/Test/ToyasCard.lean, 'card_holds'). Laid BY PROGRAM, IN A SANDBOX (cutbox-door.mjs). By AI agents, Wed Nov 11 2026. No macro, syntax, notation, axiom, sorry.
-/
import Derived.Test.YthpbbnffgfjdbaaDoorRows
import GoSem.ClaimSeven
namespace Go.Proofs.YthpbbnffgfjdbaaDoor
namespace Rows

/-- THE TIED CARD OF 'laws.FnExactShiftBy'. -/
def fnExactShiftByCard : Claim7 := { stood := { row := fnExactShiftByRow, standIns := [], harness := (true, "8656846d5b3438528c7aa55f4e7c79f5b27b7c4090a5667293f6b75c97b77aac"), looks := false }, kinds := [], alts := [], laidByText := true, laidKinds := [.data], laidTests := true, laidLooks := .later }
def FnExactShiftByCardSaid : Prop := Claim7.holds Tryd.pinned (.plain (OpenSpec.ofChange fnExactShiftBySpec)) fnExactShiftByCard

/-- THE SECOND FORM's CARD OF 'laws.FnExactShiftBy'. -/
def fnExactShiftByUptoCard : Claim7 := { stood := { row := fnExactShiftByUptoRow, standIns := [], harness := (true, "8656846d5b3438528c7aa55f4e7c79f5b27b7c4090a5667293f6b75c97b77aac"), looks := false }, kinds := [], alts := [], laidByText := true, laidKinds := [.data], laidTests := true, laidLooks := .later }
def FnExactShiftByUptoCardSaid : Prop := Claim7.holds Tryd.pinned (.plain (OpenSpec.upto fnExactShiftBySpec)) fnExactShiftByUptoCard
end Rows
end Go.Proofs.YthpbbnffgfjdbaaDoor
