/-
  DERIVED. GIVEN WITH THE SEED: THE CARDS: each row of YtpedaofcndaooaaDoorRows.lean that lists a variable, with what it lists TIED to the program's text (the seventh form; the later family's looks); each row that meets fmt, with fmt's text TOLD by the authors' own Lean function (tested against real Go, not proved from fmt's source: count such statements apart). THE CARD IS WHAT COUNTS. Prove the row's statement (the work); the ties are given (YtpedaofcndaooaaDoorTie.lean); close each card by the builder's one call (the guide's Derived/Test/ToyasCard.lean, 'card_holds'). Laid BY PROGRAM, IN A SANDBOX (cutbox-door.mjs). By AI agents, Wed Nov 11 2026. No macro, syntax, notation, axiom, sorry.
-/
import Derived.Test.YtpedaofcndaooaaDoorRows
import GoSem.ClaimSeven
namespace Go.Proofs.YtpedaofcndaooaaDoor
namespace Rows

/-- THE TIED CARD OF 'tabularlaw01.DeciBack'. -/
def deciBackCard : Claim7 := { stood := { row := deciBackRow, standIns := [], harness := (true, "18673590dbcaa6b8d6753ee9456200de0490aef1845dd1d9c03b56a10af7c6a0"), looks := false }, kinds := [], alts := [], laidByText := true, laidKinds := [.data, .data, .data, .data, .data, .pinned], laidTests := true, laidLooks := .later }
def DeciBackCardSaid : Prop := Claim7.holds Tryd.pinned (.plain (OpenSpec.ofChange deciBackSpec)) deciBackCard

/-- THE TIED CARD OF 'tabularlaw01.DeciNear'. -/
def deciNearCard : Claim7 := { stood := { row := deciNearRow, standIns := [], harness := (true, "18673590dbcaa6b8d6753ee9456200de0490aef1845dd1d9c03b56a10af7c6a0"), looks := false }, kinds := [], alts := [], laidByText := true, laidKinds := [.data, .data, .data, .data, .data, .pinned], laidTests := true, laidLooks := .later }
def DeciNearCardSaid : Prop := Claim7.holds Tryd.pinned (.plain (OpenSpec.ofChange deciNearSpec)) deciNearCard

/-- THE TIED CARD OF 'tabularlaw01.DeciRoots'. -/
def deciRootsCard : Claim7 := { stood := { row := deciRootsRow, standIns := [], harness := (true, "18673590dbcaa6b8d6753ee9456200de0490aef1845dd1d9c03b56a10af7c6a0"), looks := false }, kinds := [], alts := [], laidByText := true, laidKinds := [.data, .data, .data, .data, .data, .pinned], laidTests := true, laidLooks := .later }
def DeciRootsCardSaid : Prop := Claim7.holds Tryd.pinned (.plain (OpenSpec.ofChange deciRootsSpec)) deciRootsCard

/-- THE TIED CARD OF 'tabularlaw01.DeciParts'. -/
def deciPartsCard : Claim7 := { stood := { row := deciPartsRow, standIns := [], harness := (true, "18673590dbcaa6b8d6753ee9456200de0490aef1845dd1d9c03b56a10af7c6a0"), looks := false }, kinds := [], alts := [], laidByText := true, laidKinds := [.data, .data, .data, .data, .data, .pinned], laidTests := true, laidLooks := .later }
def DeciPartsCardSaid : Prop := Claim7.holds Tryd.pinned (.plain (OpenSpec.ofChange deciPartsSpec)) deciPartsCard

/-- THE TIED CARD OF 'tabularlaw01.DeciTexts'. -/
def deciTextsCard : Claim7 := { stood := { row := deciTextsRow, standIns := [], harness := (true, "18673590dbcaa6b8d6753ee9456200de0490aef1845dd1d9c03b56a10af7c6a0"), looks := false }, kinds := [], alts := [], laidByText := true, laidKinds := [.data, .data, .data, .data, .data, .pinned], laidTests := true, laidLooks := .later }
def DeciTextsCardSaid : Prop := Claim7.holds Tryd.pinned (.plain (OpenSpec.ofChange deciTextsSpec)) deciTextsCard

/-- THE TIED CARD OF 'tabularlaw01.DeciRounds'. -/
def deciRoundsCard : Claim7 := { stood := { row := deciRoundsRow, standIns := [], harness := (true, "18673590dbcaa6b8d6753ee9456200de0490aef1845dd1d9c03b56a10af7c6a0"), looks := false }, kinds := [], alts := [], laidByText := true, laidKinds := [.data, .data, .data, .data, .data, .pinned], laidTests := true, laidLooks := .later }
def DeciRoundsCardSaid : Prop := Claim7.holds Tryd.pinned (.plain (OpenSpec.ofChange deciRoundsSpec)) deciRoundsCard

/-- THE SECOND FORM's CARD OF 'tabularlaw01.DeciBack'. -/
def deciBackUptoCard : Claim7 := { stood := { row := deciBackUptoRow, standIns := [], harness := (true, "18673590dbcaa6b8d6753ee9456200de0490aef1845dd1d9c03b56a10af7c6a0"), looks := false }, kinds := [], alts := [], laidByText := true, laidKinds := [.data, .data, .data, .data, .data, .pinned], laidTests := true, laidLooks := .later }
def DeciBackUptoCardSaid : Prop := Claim7.holds Tryd.pinned (.plain (OpenSpec.upto deciBackSpec)) deciBackUptoCard

/-- THE SECOND FORM's CARD OF 'tabularlaw01.DeciNear'. -/
def deciNearUptoCard : Claim7 := { stood := { row := deciNearUptoRow, standIns := [], harness := (true, "18673590dbcaa6b8d6753ee9456200de0490aef1845dd1d9c03b56a10af7c6a0"), looks := false }, kinds := [], alts := [], laidByText := true, laidKinds := [.data, .data, .data, .data, .data, .pinned], laidTests := true, laidLooks := .later }
def DeciNearUptoCardSaid : Prop := Claim7.holds Tryd.pinned (.plain (OpenSpec.upto deciNearSpec)) deciNearUptoCard

/-- THE SECOND FORM's CARD OF 'tabularlaw01.DeciRoots'. -/
def deciRootsUptoCard : Claim7 := { stood := { row := deciRootsUptoRow, standIns := [], harness := (true, "18673590dbcaa6b8d6753ee9456200de0490aef1845dd1d9c03b56a10af7c6a0"), looks := false }, kinds := [], alts := [], laidByText := true, laidKinds := [.data, .data, .data, .data, .data, .pinned], laidTests := true, laidLooks := .later }
def DeciRootsUptoCardSaid : Prop := Claim7.holds Tryd.pinned (.plain (OpenSpec.upto deciRootsSpec)) deciRootsUptoCard

/-- THE SECOND FORM's CARD OF 'tabularlaw01.DeciParts'. -/
def deciPartsUptoCard : Claim7 := { stood := { row := deciPartsUptoRow, standIns := [], harness := (true, "18673590dbcaa6b8d6753ee9456200de0490aef1845dd1d9c03b56a10af7c6a0"), looks := false }, kinds := [], alts := [], laidByText := true, laidKinds := [.data, .data, .data, .data, .data, .pinned], laidTests := true, laidLooks := .later }
def DeciPartsUptoCardSaid : Prop := Claim7.holds Tryd.pinned (.plain (OpenSpec.upto deciPartsSpec)) deciPartsUptoCard

/-- THE SECOND FORM's CARD OF 'tabularlaw01.DeciTexts'. -/
def deciTextsUptoCard : Claim7 := { stood := { row := deciTextsUptoRow, standIns := [], harness := (true, "18673590dbcaa6b8d6753ee9456200de0490aef1845dd1d9c03b56a10af7c6a0"), looks := false }, kinds := [], alts := [], laidByText := true, laidKinds := [.data, .data, .data, .data, .data, .pinned], laidTests := true, laidLooks := .later }
def DeciTextsUptoCardSaid : Prop := Claim7.holds Tryd.pinned (.plain (OpenSpec.upto deciTextsSpec)) deciTextsUptoCard

/-- THE SECOND FORM's CARD OF 'tabularlaw01.DeciRounds'. -/
def deciRoundsUptoCard : Claim7 := { stood := { row := deciRoundsUptoRow, standIns := [], harness := (true, "18673590dbcaa6b8d6753ee9456200de0490aef1845dd1d9c03b56a10af7c6a0"), looks := false }, kinds := [], alts := [], laidByText := true, laidKinds := [.data, .data, .data, .data, .data, .pinned], laidTests := true, laidLooks := .later }
def DeciRoundsUptoCardSaid : Prop := Claim7.holds Tryd.pinned (.plain (OpenSpec.upto deciRoundsSpec)) deciRoundsUptoCard
end Rows
end Go.Proofs.YtpedaofcndaooaaDoor
