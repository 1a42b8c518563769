/-
  DERIVED. GIVEN WITH THE SEED: THE CARDS: each row of YtfnhdjigeedieaaGreatDoorRows.lean that lists a variable, with what it lists TIED to the program's text (the seventh form; the later family's looks); each row that meets fmt, with fmt's text TOLD by the authors' own Lean function (tested against real Go, not proved from fmt's source: count such statements apart). THE CARD IS WHAT COUNTS. Prove the row's statement (the work); the ties are given (YtfnhdjigeedieaaGreatDoorTie.lean); close each card by the builder's one call (the guide's Derived/Test/ToyasCard.lean, 'card_holds'). Laid BY PROGRAM, IN A SANDBOX (cutbox-door.mjs). By AI agents, Wed Nov 11 2026. No macro, syntax, notation, axiom, sorry.
-/
import Derived.Test.YtfnhdjigeedieaaGreatDoorRows
import GoSem.ClaimSeven
namespace Go.Proofs.YtfnhdjigeedieaaGreatDoor
namespace Rows

/-- THE TIED CARD OF 'tabularlaw20.TileTyped'. -/
def tileTypedCard : Claim7 := { stood := { row := tileTypedRow, standIns := [], harness := (true, "5b7ed3058ad430cec207d1a659ca2f8ae62dfc09f65b05a58cc547eea5483671"), looks := true }, kinds := [], alts := [], laidByText := true, laidKinds := [.data, .data, .data, .data, .widerDeep, .pinned], laidTests := true, laidLooks := .later }
def TileTypedCardSaid : Prop := Claim7.holds Tryz.pinned (.plain (OpenSpec.ofChange tileTypedSpec)) tileTypedCard

/-- THE TIED CARD OF 'tabularlaw20.TileWrites'. -/
def tileWritesCard : Claim7 := { stood := { row := tileWritesRow, standIns := [], harness := (true, "5b7ed3058ad430cec207d1a659ca2f8ae62dfc09f65b05a58cc547eea5483671"), looks := true }, kinds := [], alts := [], laidByText := true, laidKinds := [.data, .data, .data, .data, .widerDeep, .pinned], laidTests := true, laidLooks := .later }
def TileWritesCardSaid : Prop := Claim7.holds Tryz.pinned (.plain (OpenSpec.ofChange tileWritesSpec)) tileWritesCard

/-- THE TIED CARD OF 'tabularlaw20.TileOne'. -/
def tileOneCard : Claim7 := { stood := { row := tileOneRow, standIns := [], harness := (true, "5b7ed3058ad430cec207d1a659ca2f8ae62dfc09f65b05a58cc547eea5483671"), looks := true }, kinds := [], alts := [], laidByText := true, laidKinds := [.data, .data, .data, .data, .pinned], laidTests := true, laidLooks := .later }
def TileOneCardSaid : Prop := Claim7.holds Tryz.pinned (.plain (OpenSpec.ofChange tileOneSpec)) tileOneCard

/-- THE TIED CARD OF 'tabularlaw20.TileBack'. -/
def tileBackCard : Claim7 := { stood := { row := tileBackRow, standIns := [], harness := (true, "5b7ed3058ad430cec207d1a659ca2f8ae62dfc09f65b05a58cc547eea5483671"), looks := true }, kinds := [], alts := [], laidByText := true, laidKinds := [.data, .data, .data, .data, .widerDeep, .pinned], laidTests := true, laidLooks := .later }
def TileBackCardSaid : Prop := Claim7.holds Tryz.pinned (.plain (OpenSpec.ofChange tileBackSpec)) tileBackCard

/-- THE TIED CARD OF 'tabulartop.TabularTiles'. -/
def tabularTilesCard : Claim7 := { stood := { row := tabularTilesRow, standIns := [], harness := (true, "5b7ed3058ad430cec207d1a659ca2f8ae62dfc09f65b05a58cc547eea5483671"), looks := true }, kinds := [], alts := [], laidByText := true, laidKinds := [.data, .data, .data, .data, .data, .widerDeep, .pinned], laidTests := true, laidLooks := .later }
def TabularTilesCardSaid : Prop := Claim7.holds Tryz.pinned (.plain (OpenSpec.ofChange tabularTilesSpec)) tabularTilesCard

/-- THE SECOND FORM's CARD OF 'tabularlaw20.TileTyped'. -/
def tileTypedUptoCard : Claim7 := { stood := { row := tileTypedUptoRow, standIns := [], harness := (true, "5b7ed3058ad430cec207d1a659ca2f8ae62dfc09f65b05a58cc547eea5483671"), looks := true }, kinds := [], alts := [], laidByText := true, laidKinds := [.data, .data, .data, .data, .widerDeep, .pinned], laidTests := true, laidLooks := .later }
def TileTypedUptoCardSaid : Prop := Claim7.holds Tryz.pinned (.plain (OpenSpec.upto tileTypedSpec)) tileTypedUptoCard

/-- THE SECOND FORM's CARD OF 'tabularlaw20.TileWrites'. -/
def tileWritesUptoCard : Claim7 := { stood := { row := tileWritesUptoRow, standIns := [], harness := (true, "5b7ed3058ad430cec207d1a659ca2f8ae62dfc09f65b05a58cc547eea5483671"), looks := true }, kinds := [], alts := [], laidByText := true, laidKinds := [.data, .data, .data, .data, .widerDeep, .pinned], laidTests := true, laidLooks := .later }
def TileWritesUptoCardSaid : Prop := Claim7.holds Tryz.pinned (.plain (OpenSpec.upto tileWritesSpec)) tileWritesUptoCard

/-- THE SECOND FORM's CARD OF 'tabularlaw20.TileOne'. -/
def tileOneUptoCard : Claim7 := { stood := { row := tileOneUptoRow, standIns := [], harness := (true, "5b7ed3058ad430cec207d1a659ca2f8ae62dfc09f65b05a58cc547eea5483671"), looks := true }, kinds := [], alts := [], laidByText := true, laidKinds := [.data, .data, .data, .data, .pinned], laidTests := true, laidLooks := .later }
def TileOneUptoCardSaid : Prop := Claim7.holds Tryz.pinned (.plain (OpenSpec.upto tileOneSpec)) tileOneUptoCard

/-- THE SECOND FORM's CARD OF 'tabularlaw20.TileBack'. -/
def tileBackUptoCard : Claim7 := { stood := { row := tileBackUptoRow, standIns := [], harness := (true, "5b7ed3058ad430cec207d1a659ca2f8ae62dfc09f65b05a58cc547eea5483671"), looks := true }, kinds := [], alts := [], laidByText := true, laidKinds := [.data, .data, .data, .data, .widerDeep, .pinned], laidTests := true, laidLooks := .later }
def TileBackUptoCardSaid : Prop := Claim7.holds Tryz.pinned (.plain (OpenSpec.upto tileBackSpec)) tileBackUptoCard

/-- THE SECOND FORM's CARD OF 'tabulartop.TabularTiles'. -/
def tabularTilesUptoCard : Claim7 := { stood := { row := tabularTilesUptoRow, standIns := [], harness := (true, "5b7ed3058ad430cec207d1a659ca2f8ae62dfc09f65b05a58cc547eea5483671"), looks := true }, kinds := [], alts := [], laidByText := true, laidKinds := [.data, .data, .data, .data, .data, .widerDeep, .pinned], laidTests := true, laidLooks := .later }
def TabularTilesUptoCardSaid : Prop := Claim7.holds Tryz.pinned (.plain (OpenSpec.upto tabularTilesSpec)) tabularTilesUptoCard
end Rows
end Go.Proofs.YtfnhdjigeedieaaGreatDoor
