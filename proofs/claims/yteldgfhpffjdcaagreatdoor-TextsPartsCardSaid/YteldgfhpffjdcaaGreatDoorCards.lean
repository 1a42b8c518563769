/-
  DERIVED. GIVEN WITH THE SEED: THE CARDS: each row of YteldgfhpffjdcaaGreatDoorRows.lean that lists a variable, with what it lists TIED to the program's text (the seventh form; the later family's looks); each row that meets fmt, with fmt's text TOLD by the authors' own Lean function (tested against real Go, not proved from fmt's source: count such statements apart). THE CARD IS WHAT COUNTS. Prove the row's statement (the work); the ties are given (YteldgfhpffjdcaaGreatDoorTie.lean); close each card by the builder's one call (the guide's Derived/Test/ToyasCard.lean, 'card_holds'). Laid BY PROGRAM, IN A SANDBOX (cutbox-door.mjs). By AI agents, Wed Nov 11 2026. No macro, syntax, notation, axiom, sorry.
-/
import Derived.Test.YteldgfhpffjdcaaGreatDoorRows
import GoSem.ClaimSeven
namespace Go.Proofs.YteldgfhpffjdcaaGreatDoor
namespace Rows

/-- THE TIED CARD OF 'tabularlaw17.TextsParts'. -/
def textsPartsCard : Claim7 := { stood := { row := textsPartsRow, standIns := [], harness := (true, "0e66eaa92cc832c837aa94ba5c52512f6dd83c4cc1e5f656c8d50e8223a95253"), looks := true }, kinds := [], alts := [], laidByText := true, laidKinds := [.data, .data, .data, .data, .data, .pinned], laidTests := true, laidLooks := .later }
def TextsPartsCardSaid : Prop := Claim7.holds Tryz.pinned (.plain (OpenSpec.ofChange textsPartsSpec)) textsPartsCard

/-- THE TIED CARD OF 'tabularlaw17.TextsCodes'. -/
def textsCodesCard : Claim7 := { stood := { row := textsCodesRow, standIns := [], harness := (true, "0e66eaa92cc832c837aa94ba5c52512f6dd83c4cc1e5f656c8d50e8223a95253"), looks := true }, kinds := [], alts := [], laidByText := true, laidKinds := [.data, .data, .data, .data, .data, .pinned], laidTests := true, laidLooks := .later }
def TextsCodesCardSaid : Prop := Claim7.holds Tryz.pinned (.plain (OpenSpec.ofChange textsCodesSpec)) textsCodesCard

/-- THE TIED CARD OF 'tabularlaw17.TextsFinds'. -/
def textsFindsCard : Claim7 := { stood := { row := textsFindsRow, standIns := [], harness := (true, "0e66eaa92cc832c837aa94ba5c52512f6dd83c4cc1e5f656c8d50e8223a95253"), looks := true }, kinds := [], alts := [], laidByText := true, laidKinds := [.data, .data, .data, .data, .data, .pinned], laidTests := true, laidLooks := .later }
def TextsFindsCardSaid : Prop := Claim7.holds Tryz.pinned (.plain (OpenSpec.ofChange textsFindsSpec)) textsFindsCard

/-- THE SECOND FORM's CARD OF 'tabularlaw17.TextsParts'. -/
def textsPartsUptoCard : Claim7 := { stood := { row := textsPartsUptoRow, standIns := [], harness := (true, "0e66eaa92cc832c837aa94ba5c52512f6dd83c4cc1e5f656c8d50e8223a95253"), looks := true }, kinds := [], alts := [], laidByText := true, laidKinds := [.data, .data, .data, .data, .data, .pinned], laidTests := true, laidLooks := .later }
def TextsPartsUptoCardSaid : Prop := Claim7.holds Tryz.pinned (.plain (OpenSpec.upto textsPartsSpec)) textsPartsUptoCard

/-- THE SECOND FORM's CARD OF 'tabularlaw17.TextsCodes'. -/
def textsCodesUptoCard : Claim7 := { stood := { row := textsCodesUptoRow, standIns := [], harness := (true, "0e66eaa92cc832c837aa94ba5c52512f6dd83c4cc1e5f656c8d50e8223a95253"), looks := true }, kinds := [], alts := [], laidByText := true, laidKinds := [.data, .data, .data, .data, .data, .pinned], laidTests := true, laidLooks := .later }
def TextsCodesUptoCardSaid : Prop := Claim7.holds Tryz.pinned (.plain (OpenSpec.upto textsCodesSpec)) textsCodesUptoCard

/-- THE SECOND FORM's CARD OF 'tabularlaw17.TextsFinds'. -/
def textsFindsUptoCard : Claim7 := { stood := { row := textsFindsUptoRow, standIns := [], harness := (true, "0e66eaa92cc832c837aa94ba5c52512f6dd83c4cc1e5f656c8d50e8223a95253"), looks := true }, kinds := [], alts := [], laidByText := true, laidKinds := [.data, .data, .data, .data, .data, .pinned], laidTests := true, laidLooks := .later }
def TextsFindsUptoCardSaid : Prop := Claim7.holds Tryz.pinned (.plain (OpenSpec.upto textsFindsSpec)) textsFindsUptoCard
end Rows
end Go.Proofs.YteldgfhpffjdcaaGreatDoor
