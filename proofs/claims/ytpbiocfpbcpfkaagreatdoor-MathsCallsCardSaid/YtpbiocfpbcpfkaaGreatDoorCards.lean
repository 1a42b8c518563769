/-
  DERIVED. GIVEN WITH THE SEED: THE CARDS: each row of YtpbiocfpbcpfkaaGreatDoorRows.lean that lists a variable, with what it lists TIED to the program's text (the seventh form; the later family's looks); each row that meets fmt, with fmt's text TOLD by the authors' own Lean function (tested against real Go, not proved from fmt's source: count such statements apart). THE CARD IS WHAT COUNTS. Prove the row's statement (the work); the ties are given (YtpbiocfpbcpfkaaGreatDoorTie.lean); close each card by the builder's one call (the guide's Derived/Test/ToyasCard.lean, 'card_holds'). Laid BY PROGRAM, IN A SANDBOX (cutbox-door.mjs). By AI agents, Wed Nov 11 2026. No macro, syntax, notation, axiom, sorry.
-/
import Derived.Test.YtpbiocfpbcpfkaaGreatDoorRows
import GoSem.ClaimSeven
namespace Go.Proofs.YtpbiocfpbcpfkaaGreatDoor
namespace Rows

/-- THE TIED CARD OF 'tabularlaw16.MathsCalls'. -/
def mathsCallsCard : Claim7 := { stood := { row := mathsCallsRow, standIns := [], harness := (true, "a0b6b6c76105bc1aa3e93037df7d8561f4482f10537705360e2073d9c64f0a3d"), looks := true }, kinds := [], alts := [], laidByText := true, laidKinds := [.data, .data, .pinned], laidTests := true, laidLooks := .later }
def MathsCallsCardSaid : Prop := Claim7.holds Tryz.pinned (.plain (OpenSpec.ofChange mathsCallsSpec)) mathsCallsCard

/-- THE SECOND FORM's CARD OF 'tabularlaw16.MathsCalls'. -/
def mathsCallsUptoCard : Claim7 := { stood := { row := mathsCallsUptoRow, standIns := [], harness := (true, "a0b6b6c76105bc1aa3e93037df7d8561f4482f10537705360e2073d9c64f0a3d"), looks := true }, kinds := [], alts := [], laidByText := true, laidKinds := [.data, .data, .pinned], laidTests := true, laidLooks := .later }
def MathsCallsUptoCardSaid : Prop := Claim7.holds Tryz.pinned (.plain (OpenSpec.upto mathsCallsSpec)) mathsCallsUptoCard
end Rows
end Go.Proofs.YtpbiocfpbcpfkaaGreatDoor
