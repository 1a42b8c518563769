/-
  DERIVED. GIVEN WITH THE SEED: THE CARDS: each row of YtmefepbdognkdaaDoorRows.lean that lists a variable, with what it lists TIED to the program's text (the seventh form; the later family's looks); each row that meets fmt, with fmt's text TOLD by the authors' own Lean function (tested against real Go, not proved from fmt's source: count such statements apart). THE CARD IS WHAT COUNTS. Prove the row's statement (the work); the ties are given (YtmefepbdognkdaaDoorTie.lean); close each card by the builder's one call (the guide's Derived/Test/ToyasCard.lean, 'card_holds'). Laid BY PROGRAM, IN A SANDBOX (cutbox-door.mjs). By AI agents, Wed Nov 11 2026. No macro, syntax, notation, axiom, sorry.
-/
import Derived.Test.YtmefepbdognkdaaDoorRows
import GoSem.ClaimSeven
namespace Go.Proofs.YtmefepbdognkdaaDoor
namespace Rows

/-- THE TIED CARD OF 'tabularlaw16.MathsRounds'. -/
def mathsRoundsCard : Claim7 := { stood := { row := mathsRoundsRow, standIns := [], harness := (true, "4aa2f026d599303c5a8a51bdd93cd061ce24aaac579b90a01962cbc64e0d009e"), looks := true }, kinds := [], alts := [], laidByText := true, laidKinds := [.data, .data, .pinned], laidTests := true, laidLooks := .later }
def MathsRoundsCardSaid : Prop := Claim7.holds Tryd.pinned (.plain (OpenSpec.ofChange mathsRoundsSpec)) mathsRoundsCard

/-- THE TIED CARD OF 'tabularlaw16.MathsDivides'. -/
def mathsDividesCard : Claim7 := { stood := { row := mathsDividesRow, standIns := [], harness := (true, "4aa2f026d599303c5a8a51bdd93cd061ce24aaac579b90a01962cbc64e0d009e"), looks := true }, kinds := [], alts := [], laidByText := true, laidKinds := [.data, .data, .pinned], laidTests := true, laidLooks := .later }
def MathsDividesCardSaid : Prop := Claim7.holds Tryd.pinned (.plain (OpenSpec.ofChange mathsDividesSpec)) mathsDividesCard

/-- THE TIED CARD OF 'tabularlaw16.MathsParts'. -/
def mathsPartsCard : Claim7 := { stood := { row := mathsPartsRow, standIns := [], harness := (true, "4aa2f026d599303c5a8a51bdd93cd061ce24aaac579b90a01962cbc64e0d009e"), looks := true }, kinds := [], alts := [], laidByText := true, laidKinds := [.data, .data, .pinned], laidTests := true, laidLooks := .later }
def MathsPartsCardSaid : Prop := Claim7.holds Tryd.pinned (.plain (OpenSpec.ofChange mathsPartsSpec)) mathsPartsCard

/-- THE TIED CARD OF 'tabularlaw16.MathsFails'. -/
def mathsFailsCard : Claim7 := { stood := { row := mathsFailsRow, standIns := [], harness := (true, "4aa2f026d599303c5a8a51bdd93cd061ce24aaac579b90a01962cbc64e0d009e"), looks := true }, kinds := [], alts := [], laidByText := true, laidKinds := [.data, .data, .pinned], laidTests := true, laidLooks := .later }
def MathsFailsCardSaid : Prop := Claim7.holds Tryd.pinned (.plain (OpenSpec.ofChange mathsFailsSpec)) mathsFailsCard

/-- THE TIED CARD OF 'tabularlaw15.ValueOrder'. -/
def valueOrderCard : Claim7 := { stood := { row := valueOrderRow, standIns := [], harness := (true, "4aa2f026d599303c5a8a51bdd93cd061ce24aaac579b90a01962cbc64e0d009e"), looks := true }, kinds := [], alts := [], laidByText := true, laidKinds := [.data, .data, .data, .data, .pinned], laidTests := true, laidLooks := .later }
def ValueOrderCardSaid : Prop := Claim7.holds Tryd.pinned (.plain (OpenSpec.ofChange valueOrderSpec)) valueOrderCard

/-- THE SECOND FORM's CARD OF 'tabularlaw16.MathsRounds'. -/
def mathsRoundsUptoCard : Claim7 := { stood := { row := mathsRoundsUptoRow, standIns := [], harness := (true, "4aa2f026d599303c5a8a51bdd93cd061ce24aaac579b90a01962cbc64e0d009e"), looks := true }, kinds := [], alts := [], laidByText := true, laidKinds := [.data, .data, .pinned], laidTests := true, laidLooks := .later }
def MathsRoundsUptoCardSaid : Prop := Claim7.holds Tryd.pinned (.plain (OpenSpec.upto mathsRoundsSpec)) mathsRoundsUptoCard

/-- THE SECOND FORM's CARD OF 'tabularlaw16.MathsDivides'. -/
def mathsDividesUptoCard : Claim7 := { stood := { row := mathsDividesUptoRow, standIns := [], harness := (true, "4aa2f026d599303c5a8a51bdd93cd061ce24aaac579b90a01962cbc64e0d009e"), looks := true }, kinds := [], alts := [], laidByText := true, laidKinds := [.data, .data, .pinned], laidTests := true, laidLooks := .later }
def MathsDividesUptoCardSaid : Prop := Claim7.holds Tryd.pinned (.plain (OpenSpec.upto mathsDividesSpec)) mathsDividesUptoCard

/-- THE SECOND FORM's CARD OF 'tabularlaw16.MathsParts'. -/
def mathsPartsUptoCard : Claim7 := { stood := { row := mathsPartsUptoRow, standIns := [], harness := (true, "4aa2f026d599303c5a8a51bdd93cd061ce24aaac579b90a01962cbc64e0d009e"), looks := true }, kinds := [], alts := [], laidByText := true, laidKinds := [.data, .data, .pinned], laidTests := true, laidLooks := .later }
def MathsPartsUptoCardSaid : Prop := Claim7.holds Tryd.pinned (.plain (OpenSpec.upto mathsPartsSpec)) mathsPartsUptoCard

/-- THE SECOND FORM's CARD OF 'tabularlaw16.MathsFails'. -/
def mathsFailsUptoCard : Claim7 := { stood := { row := mathsFailsUptoRow, standIns := [], harness := (true, "4aa2f026d599303c5a8a51bdd93cd061ce24aaac579b90a01962cbc64e0d009e"), looks := true }, kinds := [], alts := [], laidByText := true, laidKinds := [.data, .data, .pinned], laidTests := true, laidLooks := .later }
def MathsFailsUptoCardSaid : Prop := Claim7.holds Tryd.pinned (.plain (OpenSpec.upto mathsFailsSpec)) mathsFailsUptoCard

/-- THE SECOND FORM's CARD OF 'tabularlaw15.ValueOrder'. -/
def valueOrderUptoCard : Claim7 := { stood := { row := valueOrderUptoRow, standIns := [], harness := (true, "4aa2f026d599303c5a8a51bdd93cd061ce24aaac579b90a01962cbc64e0d009e"), looks := true }, kinds := [], alts := [], laidByText := true, laidKinds := [.data, .data, .data, .data, .pinned], laidTests := true, laidLooks := .later }
def ValueOrderUptoCardSaid : Prop := Claim7.holds Tryd.pinned (.plain (OpenSpec.upto valueOrderSpec)) valueOrderUptoCard
end Rows
end Go.Proofs.YtmefepbdognkdaaDoor
