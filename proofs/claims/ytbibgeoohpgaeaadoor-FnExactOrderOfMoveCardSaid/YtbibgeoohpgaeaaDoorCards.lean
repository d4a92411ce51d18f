/-
  DERIVED. GIVEN WITH THE SEED: THE CARDS: each row of YtbibgeoohpgaeaaDoorRows.lean that lists a variable, with what it lists TIED to the program's text (the seventh form; the later family's looks); each row that meets fmt, with fmt's text TOLD by the authors' own Lean function (tested against real Go, not proved from fmt's source: count such statements apart). THE CARD IS WHAT COUNTS. Prove the row's statement (the work); the ties are given (YtbibgeoohpgaeaaDoorTie.lean); close each card by the builder's one call (the guide's Derived/Test/ToyasCard.lean, 'card_holds'). Laid BY PROGRAM, IN A SANDBOX (cutbox-door.mjs). By AI agents, Wed Nov 11 2026. No macro, syntax, notation, axiom, sorry.
-/
import Derived.Test.YtbibgeoohpgaeaaDoorRows
import GoSem.ClaimSeven
namespace Go.Proofs.YtbibgeoohpgaeaaDoor
namespace Rows

/-- THE TIED CARD OF 'laws.FnExactOrderOfMove'. -/
def fnExactOrderOfMoveCard : Claim7 := { stood := { row := fnExactOrderOfMoveRow, standIns := [], harness := (true, "cf7667c585d01df2c5279df05ab1a0f5a59883e7783ab9f1b190833c07f4af19"), looks := false }, kinds := [], alts := [], laidByText := true, laidKinds := [.data], laidTests := true, laidLooks := .later }
def FnExactOrderOfMoveCardSaid : Prop := Claim7.holds Tryd.pinned (.plain (OpenSpec.ofChange fnExactOrderOfMoveSpec)) fnExactOrderOfMoveCard

/-- THE TIED CARD OF 'laws.FnExactKindOfMove'. -/
def fnExactKindOfMoveCard : Claim7 := { stood := { row := fnExactKindOfMoveRow, standIns := [], harness := (true, "cf7667c585d01df2c5279df05ab1a0f5a59883e7783ab9f1b190833c07f4af19"), looks := false }, kinds := [], alts := [], laidByText := true, laidKinds := [.data], laidTests := true, laidLooks := .later }
def FnExactKindOfMoveCardSaid : Prop := Claim7.holds Tryd.pinned (.plain (OpenSpec.ofChange fnExactKindOfMoveSpec)) fnExactKindOfMoveCard

/-- THE SECOND FORM's CARD OF 'laws.FnExactOrderOfMove'. -/
def fnExactOrderOfMoveUptoCard : Claim7 := { stood := { row := fnExactOrderOfMoveUptoRow, standIns := [], harness := (true, "cf7667c585d01df2c5279df05ab1a0f5a59883e7783ab9f1b190833c07f4af19"), looks := false }, kinds := [], alts := [], laidByText := true, laidKinds := [.data], laidTests := true, laidLooks := .later }
def FnExactOrderOfMoveUptoCardSaid : Prop := Claim7.holds Tryd.pinned (.plain (OpenSpec.upto fnExactOrderOfMoveSpec)) fnExactOrderOfMoveUptoCard

/-- THE SECOND FORM's CARD OF 'laws.FnExactKindOfMove'. -/
def fnExactKindOfMoveUptoCard : Claim7 := { stood := { row := fnExactKindOfMoveUptoRow, standIns := [], harness := (true, "cf7667c585d01df2c5279df05ab1a0f5a59883e7783ab9f1b190833c07f4af19"), looks := false }, kinds := [], alts := [], laidByText := true, laidKinds := [.data], laidTests := true, laidLooks := .later }
def FnExactKindOfMoveUptoCardSaid : Prop := Claim7.holds Tryd.pinned (.plain (OpenSpec.upto fnExactKindOfMoveSpec)) fnExactKindOfMoveUptoCard
end Rows
end Go.Proofs.YtbibgeoohpgaeaaDoor
