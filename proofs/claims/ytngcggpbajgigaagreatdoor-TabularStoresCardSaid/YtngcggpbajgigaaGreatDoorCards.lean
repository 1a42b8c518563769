/-
  DERIVED. GIVEN WITH THE SEED: THE CARDS: each row of YtngcggpbajgigaaGreatDoorRows.lean that lists a variable, with what it lists TIED to the program's text (the seventh form; the later family's looks); each row that meets fmt, with fmt's text TOLD by the authors' own Lean function (tested against real Go, not proved from fmt's source: count such statements apart). THE CARD IS WHAT COUNTS. Prove the row's statement (the work); the ties are given (YtngcggpbajgigaaGreatDoorTie.lean); close each card by the builder's one call (the guide's Derived/Test/ToyasCard.lean, 'card_holds'). Laid BY PROGRAM, IN A SANDBOX (cutbox-door.mjs). By AI agents, Wed Nov 11 2026. No macro, syntax, notation, axiom, sorry.
-/
import Derived.Test.YtngcggpbajgigaaGreatDoorRows
import GoSem.ClaimSeven
namespace Go.Proofs.YtngcggpbajgigaaGreatDoor
namespace Rows

/-- THE TIED CARD OF 'tabulartop.TabularStores'. -/
def tabularStoresCard : Claim7 := { stood := { row := tabularStoresRow, standIns := [], harness := (true, "f4cffb0e3617fac953a057b2f9b9837b2d5d373e5a63704f04062709d3c95848"), looks := false }, kinds := [], alts := [], laidByText := true, laidKinds := [.data], laidTests := true, laidLooks := .later }
def TabularStoresCardSaid : Prop := Claim7.holds Tryz.pinned (.plain (OpenSpec.ofChange tabularStoresSpec)) tabularStoresCard

/-- THE SECOND FORM's CARD OF 'tabulartop.TabularStores'. -/
def tabularStoresUptoCard : Claim7 := { stood := { row := tabularStoresUptoRow, standIns := [], harness := (true, "f4cffb0e3617fac953a057b2f9b9837b2d5d373e5a63704f04062709d3c95848"), looks := false }, kinds := [], alts := [], laidByText := true, laidKinds := [.data], laidTests := true, laidLooks := .later }
def TabularStoresUptoCardSaid : Prop := Claim7.holds Tryz.pinned (.plain (OpenSpec.upto tabularStoresSpec)) tabularStoresUptoCard
end Rows
end Go.Proofs.YtngcggpbajgigaaGreatDoor
