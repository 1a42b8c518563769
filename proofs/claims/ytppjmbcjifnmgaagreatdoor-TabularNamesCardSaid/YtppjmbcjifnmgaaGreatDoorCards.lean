/-
  DERIVED. GIVEN WITH THE SEED: THE CARDS: each row of YtppjmbcjifnmgaaGreatDoorRows.lean that lists a variable, with what it lists TIED to the program's text (the seventh form; the later family's looks); each row that meets fmt, with fmt's text TOLD by the authors' own Lean function (tested against real Go, not proved from fmt's source: count such statements apart). THE CARD IS WHAT COUNTS. Prove the row's statement (the work); the ties are given (YtppjmbcjifnmgaaGreatDoorTie.lean); close each card by the builder's one call (the guide's Derived/Test/ToyasCard.lean, 'card_holds'). Laid BY PROGRAM, IN A SANDBOX (cutbox-door.mjs). By AI agents, Wed Nov 11 2026. No macro, syntax, notation, axiom, sorry.
-/
import Derived.Test.YtppjmbcjifnmgaaGreatDoorRows
import GoSem.ClaimSeven
namespace Go.Proofs.YtppjmbcjifnmgaaGreatDoor
namespace Rows

/-- THE TIED CARD OF 'tabulartop.TabularNames'. -/
def tabularNamesCard : Claim7 := { stood := { row := tabularNamesRow, standIns := [], harness := (true, "d59b67e56a2cff6e022316230585baa32ac98aff000ba8e0ebebaee306cc01e9"), looks := false }, kinds := [], alts := [], laidByText := true, laidKinds := [.data], laidTests := true, laidLooks := .later }
def TabularNamesCardSaid : Prop := Claim7.holds Tryz.pinned (.plain (OpenSpec.ofChange tabularNamesSpec)) tabularNamesCard

/-- THE SECOND FORM's CARD OF 'tabulartop.TabularNames'. -/
def tabularNamesUptoCard : Claim7 := { stood := { row := tabularNamesUptoRow, standIns := [], harness := (true, "d59b67e56a2cff6e022316230585baa32ac98aff000ba8e0ebebaee306cc01e9"), looks := false }, kinds := [], alts := [], laidByText := true, laidKinds := [.data], laidTests := true, laidLooks := .later }
def TabularNamesUptoCardSaid : Prop := Claim7.holds Tryz.pinned (.plain (OpenSpec.upto tabularNamesSpec)) tabularNamesUptoCard
end Rows
end Go.Proofs.YtppjmbcjifnmgaaGreatDoor
