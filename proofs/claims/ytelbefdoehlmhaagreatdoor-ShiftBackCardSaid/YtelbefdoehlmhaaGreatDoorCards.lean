/-
  DERIVED. GIVEN WITH THE SEED: THE CARDS: each row of YtelbefdoehlmhaaGreatDoorRows.lean that lists a variable, with what it lists TIED to the program's text (the seventh form; the later family's looks); each row that meets fmt, with fmt's text TOLD by the authors' own Lean function (tested against real Go, not proved from fmt's source: count such statements apart). THE CARD IS WHAT COUNTS. Prove the row's statement (the work); the ties are given (YtelbefdoehlmhaaGreatDoorTie.lean); close each card by the builder's one call (the guide's Derived/Test/ToyasCard.lean, 'card_holds'). Laid BY PROGRAM, IN A SANDBOX (cutbox-door.mjs). By AI agents, Wed Nov 11 2026. No macro, syntax, notation, axiom, sorry.
-/
import Derived.Test.YtelbefdoehlmhaaGreatDoorRows
import GoSem.ClaimSeven
namespace Go.Proofs.YtelbefdoehlmhaaGreatDoor
namespace Rows

/-- THE TIED CARD OF 'tabularlaw14.ShiftTrees'. -/
def shiftTreesCard : Claim7 := { stood := { row := shiftTreesRow, standIns := [], harness := (true, "e42cb228f3437d9bf473767be5b6719f7de1557ae98e549803ed48f6a5f0f555"), looks := false }, kinds := [], alts := [], laidByText := true, laidKinds := [.data, .data, .data, .data, .widerDeep, .pinned], laidTests := true, laidLooks := .later }
def ShiftTreesCardSaid : Prop := Claim7.holds Tryz.pinned (.plain (OpenSpec.ofChange shiftTreesSpec)) shiftTreesCard

/-- THE TIED CARD OF 'tabularlaw14.ShiftMoves'. -/
def shiftMovesCard : Claim7 := { stood := { row := shiftMovesRow, standIns := [], harness := (true, "e42cb228f3437d9bf473767be5b6719f7de1557ae98e549803ed48f6a5f0f555"), looks := false }, kinds := [], alts := [], laidByText := true, laidKinds := [.data, .data, .data, .data, .widerDeep, .pinned], laidTests := true, laidLooks := .later }
def ShiftMovesCardSaid : Prop := Claim7.holds Tryz.pinned (.plain (OpenSpec.ofChange shiftMovesSpec)) shiftMovesCard

/-- THE TIED CARD OF 'tabularlaw14.ShiftCopies'. -/
def shiftCopiesCard : Claim7 := { stood := { row := shiftCopiesRow, standIns := [], harness := (true, "e42cb228f3437d9bf473767be5b6719f7de1557ae98e549803ed48f6a5f0f555"), looks := false }, kinds := [], alts := [], laidByText := true, laidKinds := [.data, .data, .data, .data, .widerDeep, .pinned], laidTests := true, laidLooks := .later }
def ShiftCopiesCardSaid : Prop := Claim7.holds Tryz.pinned (.plain (OpenSpec.ofChange shiftCopiesSpec)) shiftCopiesCard

/-- THE TIED CARD OF 'tabularlaw14.ShiftApart'. -/
def shiftApartCard : Claim7 := { stood := { row := shiftApartRow, standIns := [], harness := (true, "e42cb228f3437d9bf473767be5b6719f7de1557ae98e549803ed48f6a5f0f555"), looks := false }, kinds := [], alts := [], laidByText := true, laidKinds := [.data, .data, .data, .data, .widerDeep, .pinned], laidTests := true, laidLooks := .later }
def ShiftApartCardSaid : Prop := Claim7.holds Tryz.pinned (.plain (OpenSpec.ofChange shiftApartSpec)) shiftApartCard

/-- THE TIED CARD OF 'tabularlaw14.ShiftBack'. -/
def shiftBackCard : Claim7 := { stood := { row := shiftBackRow, standIns := [], harness := (true, "e42cb228f3437d9bf473767be5b6719f7de1557ae98e549803ed48f6a5f0f555"), looks := false }, kinds := [], alts := [], laidByText := true, laidKinds := [.data, .data, .data, .data, .widerDeep, .pinned], laidTests := true, laidLooks := .later }
def ShiftBackCardSaid : Prop := Claim7.holds Tryz.pinned (.plain (OpenSpec.ofChange shiftBackSpec)) shiftBackCard

/-- THE SECOND FORM's CARD OF 'tabularlaw14.ShiftTrees'. -/
def shiftTreesUptoCard : Claim7 := { stood := { row := shiftTreesUptoRow, standIns := [], harness := (true, "e42cb228f3437d9bf473767be5b6719f7de1557ae98e549803ed48f6a5f0f555"), looks := false }, kinds := [], alts := [], laidByText := true, laidKinds := [.data, .data, .data, .data, .widerDeep, .pinned], laidTests := true, laidLooks := .later }
def ShiftTreesUptoCardSaid : Prop := Claim7.holds Tryz.pinned (.plain (OpenSpec.upto shiftTreesSpec)) shiftTreesUptoCard

/-- THE SECOND FORM's CARD OF 'tabularlaw14.ShiftMoves'. -/
def shiftMovesUptoCard : Claim7 := { stood := { row := shiftMovesUptoRow, standIns := [], harness := (true, "e42cb228f3437d9bf473767be5b6719f7de1557ae98e549803ed48f6a5f0f555"), looks := false }, kinds := [], alts := [], laidByText := true, laidKinds := [.data, .data, .data, .data, .widerDeep, .pinned], laidTests := true, laidLooks := .later }
def ShiftMovesUptoCardSaid : Prop := Claim7.holds Tryz.pinned (.plain (OpenSpec.upto shiftMovesSpec)) shiftMovesUptoCard

/-- THE SECOND FORM's CARD OF 'tabularlaw14.ShiftCopies'. -/
def shiftCopiesUptoCard : Claim7 := { stood := { row := shiftCopiesUptoRow, standIns := [], harness := (true, "e42cb228f3437d9bf473767be5b6719f7de1557ae98e549803ed48f6a5f0f555"), looks := false }, kinds := [], alts := [], laidByText := true, laidKinds := [.data, .data, .data, .data, .widerDeep, .pinned], laidTests := true, laidLooks := .later }
def ShiftCopiesUptoCardSaid : Prop := Claim7.holds Tryz.pinned (.plain (OpenSpec.upto shiftCopiesSpec)) shiftCopiesUptoCard

/-- THE SECOND FORM's CARD OF 'tabularlaw14.ShiftApart'. -/
def shiftApartUptoCard : Claim7 := { stood := { row := shiftApartUptoRow, standIns := [], harness := (true, "e42cb228f3437d9bf473767be5b6719f7de1557ae98e549803ed48f6a5f0f555"), looks := false }, kinds := [], alts := [], laidByText := true, laidKinds := [.data, .data, .data, .data, .widerDeep, .pinned], laidTests := true, laidLooks := .later }
def ShiftApartUptoCardSaid : Prop := Claim7.holds Tryz.pinned (.plain (OpenSpec.upto shiftApartSpec)) shiftApartUptoCard

/-- THE SECOND FORM's CARD OF 'tabularlaw14.ShiftBack'. -/
def shiftBackUptoCard : Claim7 := { stood := { row := shiftBackUptoRow, standIns := [], harness := (true, "e42cb228f3437d9bf473767be5b6719f7de1557ae98e549803ed48f6a5f0f555"), looks := false }, kinds := [], alts := [], laidByText := true, laidKinds := [.data, .data, .data, .data, .widerDeep, .pinned], laidTests := true, laidLooks := .later }
def ShiftBackUptoCardSaid : Prop := Claim7.holds Tryz.pinned (.plain (OpenSpec.upto shiftBackSpec)) shiftBackUptoCard
end Rows
end Go.Proofs.YtelbefdoehlmhaaGreatDoor
