/-
  DERIVED. GIVEN WITH THE SEED: THE CARDS: each row of YthdpkgfdjmeaiaaGreatDoorRows.lean that lists a variable, with what it lists TIED to the program's text (the seventh form; the later family's looks); each row that meets fmt, with fmt's text TOLD by the authors' own Lean function (tested against real Go, not proved from fmt's source: count such statements apart). THE CARD IS WHAT COUNTS. Prove the row's statement (the work); the ties are given (YthdpkgfdjmeaiaaGreatDoorTie.lean); close each card by the builder's one call (the guide's Derived/Test/ToyasCard.lean, 'card_holds'). Laid BY PROGRAM, IN A SANDBOX (cutbox-door.mjs). By AI agents, Wed Nov 11 2026. No macro, syntax, notation, axiom, sorry.
-/
import Derived.Test.YthdpkgfdjmeaiaaGreatDoorRows
import GoSem.ClaimSeven
namespace Go.Proofs.YthdpkgfdjmeaiaaGreatDoor
namespace Rows

/-- THE TIED CARD OF 'tabulartop.TabularCommutes'. -/
def tabularCommutesCard : Claim7 := { stood := { row := tabularCommutesRow, standIns := [], harness := (true, "b42ff1345d696a3a262df1f452c5733488812661acb2c63201de6b53adbcef7a"), looks := false }, kinds := [], alts := [], laidByText := true, laidKinds := [.data, .data, .widerDeep, .pinned], laidTests := true, laidLooks := .later }
def TabularCommutesCardSaid : Prop := Claim7.holds Tryz.pinned (.plain (OpenSpec.ofChange tabularCommutesSpec)) tabularCommutesCard

/-- THE TIED CARD OF 'tabularlaw14.ShiftTrees'. -/
def shiftTreesCard : Claim7 := { stood := { row := shiftTreesRow, standIns := [], harness := (true, "b42ff1345d696a3a262df1f452c5733488812661acb2c63201de6b53adbcef7a"), looks := false }, kinds := [], alts := [], laidByText := true, laidKinds := [.data, .data, .data, .data, .widerDeep, .pinned], laidTests := true, laidLooks := .later }
def ShiftTreesCardSaid : Prop := Claim7.holds Tryz.pinned (.plain (OpenSpec.ofChange shiftTreesSpec)) shiftTreesCard

/-- THE TIED CARD OF 'tabulartop.TabularSpelled'. -/
def tabularSpelledCard : Claim7 := { stood := { row := tabularSpelledRow, standIns := [], harness := (true, "b42ff1345d696a3a262df1f452c5733488812661acb2c63201de6b53adbcef7a"), looks := false }, kinds := [], alts := [], laidByText := true, laidKinds := [.data, .data, .data, .data, .data, .widerDeep, .pinned], laidTests := true, laidLooks := .later }
def TabularSpelledCardSaid : Prop := Claim7.holds Tryz.pinned (.plain (OpenSpec.ofChange tabularSpelledSpec)) tabularSpelledCard

/-- THE SECOND FORM's CARD OF 'tabulartop.TabularCommutes'. -/
def tabularCommutesUptoCard : Claim7 := { stood := { row := tabularCommutesUptoRow, standIns := [], harness := (true, "b42ff1345d696a3a262df1f452c5733488812661acb2c63201de6b53adbcef7a"), looks := false }, kinds := [], alts := [], laidByText := true, laidKinds := [.data, .data, .widerDeep, .pinned], laidTests := true, laidLooks := .later }
def TabularCommutesUptoCardSaid : Prop := Claim7.holds Tryz.pinned (.plain (OpenSpec.upto tabularCommutesSpec)) tabularCommutesUptoCard

/-- THE SECOND FORM's CARD OF 'tabularlaw14.ShiftTrees'. -/
def shiftTreesUptoCard : Claim7 := { stood := { row := shiftTreesUptoRow, standIns := [], harness := (true, "b42ff1345d696a3a262df1f452c5733488812661acb2c63201de6b53adbcef7a"), looks := false }, kinds := [], alts := [], laidByText := true, laidKinds := [.data, .data, .data, .data, .widerDeep, .pinned], laidTests := true, laidLooks := .later }
def ShiftTreesUptoCardSaid : Prop := Claim7.holds Tryz.pinned (.plain (OpenSpec.upto shiftTreesSpec)) shiftTreesUptoCard

/-- THE SECOND FORM's CARD OF 'tabulartop.TabularSpelled'. -/
def tabularSpelledUptoCard : Claim7 := { stood := { row := tabularSpelledUptoRow, standIns := [], harness := (true, "b42ff1345d696a3a262df1f452c5733488812661acb2c63201de6b53adbcef7a"), looks := false }, kinds := [], alts := [], laidByText := true, laidKinds := [.data, .data, .data, .data, .data, .widerDeep, .pinned], laidTests := true, laidLooks := .later }
def TabularSpelledUptoCardSaid : Prop := Claim7.holds Tryz.pinned (.plain (OpenSpec.upto tabularSpelledSpec)) tabularSpelledUptoCard
end Rows
end Go.Proofs.YthdpkgfdjmeaiaaGreatDoor
