/-
  DERIVED. GIVEN WITH THE SEED: THE CARDS: each row of YtoodoaekmeeheaaGreatDoorRows.lean that lists a variable, with what it lists TIED to the program's text (the seventh form; the later family's looks); each row that meets fmt, with fmt's text TOLD by the authors' own Lean function (tested against real Go, not proved from fmt's source: count such statements apart). THE CARD IS WHAT COUNTS. Prove the row's statement (the work); the ties are given (YtoodoaekmeeheaaGreatDoorTie.lean); close each card by the builder's one call (the guide's Derived/Test/ToyasCard.lean, 'card_holds'). Laid BY PROGRAM, IN A SANDBOX (cutbox-door.mjs). By AI agents, Wed Nov 11 2026. No macro, syntax, notation, axiom, sorry.
-/
import Derived.Test.YtoodoaekmeeheaaGreatDoorRows
import GoSem.ClaimSeven
namespace Go.Proofs.YtoodoaekmeeheaaGreatDoor
namespace Rows

/-- THE TIED CARD OF 'tabularlaw17.TextsCalls'. -/
def textsCallsCard : Claim7 := { stood := { row := textsCallsRow, standIns := [], harness := (true, "e2103b4088adc2ae4ee66d48d372c4695fa35b5bc5fc5a2061e59b4e03b8b959"), looks := true }, kinds := [], alts := [], laidByText := true, laidKinds := [.data, .data, .data, .data, .data, .pinned], laidTests := true, laidLooks := .later }
def TextsCallsCardSaid : Prop := Claim7.holds Tryz.pinned (.plain (OpenSpec.ofChange textsCallsSpec)) textsCallsCard

/-- THE SECOND FORM's CARD OF 'tabularlaw17.TextsCalls'. -/
def textsCallsUptoCard : Claim7 := { stood := { row := textsCallsUptoRow, standIns := [], harness := (true, "e2103b4088adc2ae4ee66d48d372c4695fa35b5bc5fc5a2061e59b4e03b8b959"), looks := true }, kinds := [], alts := [], laidByText := true, laidKinds := [.data, .data, .data, .data, .data, .pinned], laidTests := true, laidLooks := .later }
def TextsCallsUptoCardSaid : Prop := Claim7.holds Tryz.pinned (.plain (OpenSpec.upto textsCallsSpec)) textsCallsUptoCard
end Rows
end Go.Proofs.YtoodoaekmeeheaaGreatDoor
