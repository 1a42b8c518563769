/-
  DERIVED. GIVEN WITH THE SEED: THE CARDS: each row of YtigdnpbpajgphaaGreatDoorRows.lean that lists a variable, with what it lists TIED to the program's text (the seventh form; the later family's looks); each row that meets fmt, with fmt's text TOLD by the authors' own Lean function (tested against real Go, not proved from fmt's source: count such statements apart). THE CARD IS WHAT COUNTS. Prove the row's statement (the work); the ties are given (YtigdnpbpajgphaaGreatDoorTie.lean); close each card by the builder's one call (the guide's Derived/Test/ToyasCard.lean, 'card_holds'). Laid BY PROGRAM, IN A SANDBOX (cutbox-door.mjs). By AI agents, Wed Nov 11 2026. No macro, syntax, notation, axiom, sorry.
-/
import Derived.Test.YtigdnpbpajgphaaGreatDoorRows
import GoSem.ClaimSeven
namespace Go.Proofs.YtigdnpbpajgphaaGreatDoor
namespace Rows

/-- THE TIED CARD OF 'tabularlaw17.TextsTurns'. -/
def textsTurnsCard : Claim7 := { stood := { row := textsTurnsRow, standIns := [], harness := (true, "efeaa35a72b649fd3da8bacbdec6c59d3097c4dc7afc51832c686c8853593c72"), looks := true }, kinds := [], alts := [], laidByText := true, laidKinds := [.data, .data, .data, .data, .data, .pinned], laidTests := true, laidLooks := .later }
def TextsTurnsCardSaid : Prop := Claim7.holds Tryz.pinned (.plain (OpenSpec.ofChange textsTurnsSpec)) textsTurnsCard

/-- THE SECOND FORM's CARD OF 'tabularlaw17.TextsTurns'. -/
def textsTurnsUptoCard : Claim7 := { stood := { row := textsTurnsUptoRow, standIns := [], harness := (true, "efeaa35a72b649fd3da8bacbdec6c59d3097c4dc7afc51832c686c8853593c72"), looks := true }, kinds := [], alts := [], laidByText := true, laidKinds := [.data, .data, .data, .data, .data, .pinned], laidTests := true, laidLooks := .later }
def TextsTurnsUptoCardSaid : Prop := Claim7.holds Tryz.pinned (.plain (OpenSpec.upto textsTurnsSpec)) textsTurnsUptoCard
end Rows
end Go.Proofs.YtigdnpbpajgphaaGreatDoor
