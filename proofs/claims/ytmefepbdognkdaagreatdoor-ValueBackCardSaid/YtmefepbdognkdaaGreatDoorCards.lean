/-
  DERIVED. GIVEN WITH THE SEED: THE CARDS: each row of YtmefepbdognkdaaGreatDoorRows.lean that lists a variable, with what it lists TIED to the program's text (the seventh form; the later family's looks); each row that meets fmt, with fmt's text TOLD by the authors' own Lean function (tested against real Go, not proved from fmt's source: count such statements apart). THE CARD IS WHAT COUNTS. Prove the row's statement (the work); the ties are given (YtmefepbdognkdaaGreatDoorTie.lean); close each card by the builder's one call (the guide's Derived/Test/ToyasCard.lean, 'card_holds'). Laid BY PROGRAM, IN A SANDBOX (cutbox-door.mjs). By AI agents, Wed Nov 11 2026. No macro, syntax, notation, axiom, sorry.
-/
import Derived.Test.YtmefepbdognkdaaGreatDoorRows
import GoSem.ClaimSeven
namespace Go.Proofs.YtmefepbdognkdaaGreatDoor
namespace Rows

/-- THE TIED CARD OF 'tabularlaw16.MathsCalls'. -/
def mathsCallsCard : Claim7 := { stood := { row := mathsCallsRow, standIns := [], harness := (true, "7f2af92c6ff2ae44b00325157e30054b203dce4898e79d239d3b6c86c566c095"), looks := true }, kinds := [], alts := [], laidByText := true, laidKinds := [.data, .data, .pinned], laidTests := true, laidLooks := .later }
def MathsCallsCardSaid : Prop := Claim7.holds Tryz.pinned (.plain (OpenSpec.ofChange mathsCallsSpec)) mathsCallsCard

/-- THE TIED CARD OF 'tabularlaw15.ValuePairs'. -/
def valuePairsCard : Claim7 := { stood := { row := valuePairsRow, standIns := [], harness := (true, "7f2af92c6ff2ae44b00325157e30054b203dce4898e79d239d3b6c86c566c095"), looks := true }, kinds := [], alts := [], laidByText := true, laidKinds := [.data, .data, .data, .data, .pinned], laidTests := true, laidLooks := .later }
def ValuePairsCardSaid : Prop := Claim7.holds Tryz.pinned (.plain (OpenSpec.ofChange valuePairsSpec)) valuePairsCard

/-- THE TIED CARD OF 'tabularlaw15.ValueFails'. -/
def valueFailsCard : Claim7 := { stood := { row := valueFailsRow, standIns := [], harness := (true, "7f2af92c6ff2ae44b00325157e30054b203dce4898e79d239d3b6c86c566c095"), looks := true }, kinds := [], alts := [], laidByText := true, laidKinds := [.data, .data, .data, .data, .pinned], laidTests := true, laidLooks := .later }
def ValueFailsCardSaid : Prop := Claim7.holds Tryz.pinned (.plain (OpenSpec.ofChange valueFailsSpec)) valueFailsCard

/-- THE TIED CARD OF 'tabularlaw15.ValueBack'. -/
def valueBackCard : Claim7 := { stood := { row := valueBackRow, standIns := [], harness := (true, "7f2af92c6ff2ae44b00325157e30054b203dce4898e79d239d3b6c86c566c095"), looks := true }, kinds := [], alts := [], laidByText := true, laidKinds := [.data, .data, .data, .data, .pinned], laidTests := true, laidLooks := .later }
def ValueBackCardSaid : Prop := Claim7.holds Tryz.pinned (.plain (OpenSpec.ofChange valueBackSpec)) valueBackCard

/-- THE SECOND FORM's CARD OF 'tabularlaw16.MathsCalls'. -/
def mathsCallsUptoCard : Claim7 := { stood := { row := mathsCallsUptoRow, standIns := [], harness := (true, "7f2af92c6ff2ae44b00325157e30054b203dce4898e79d239d3b6c86c566c095"), looks := true }, kinds := [], alts := [], laidByText := true, laidKinds := [.data, .data, .pinned], laidTests := true, laidLooks := .later }
def MathsCallsUptoCardSaid : Prop := Claim7.holds Tryz.pinned (.plain (OpenSpec.upto mathsCallsSpec)) mathsCallsUptoCard

/-- THE SECOND FORM's CARD OF 'tabularlaw15.ValuePairs'. -/
def valuePairsUptoCard : Claim7 := { stood := { row := valuePairsUptoRow, standIns := [], harness := (true, "7f2af92c6ff2ae44b00325157e30054b203dce4898e79d239d3b6c86c566c095"), looks := true }, kinds := [], alts := [], laidByText := true, laidKinds := [.data, .data, .data, .data, .pinned], laidTests := true, laidLooks := .later }
def ValuePairsUptoCardSaid : Prop := Claim7.holds Tryz.pinned (.plain (OpenSpec.upto valuePairsSpec)) valuePairsUptoCard

/-- THE SECOND FORM's CARD OF 'tabularlaw15.ValueFails'. -/
def valueFailsUptoCard : Claim7 := { stood := { row := valueFailsUptoRow, standIns := [], harness := (true, "7f2af92c6ff2ae44b00325157e30054b203dce4898e79d239d3b6c86c566c095"), looks := true }, kinds := [], alts := [], laidByText := true, laidKinds := [.data, .data, .data, .data, .pinned], laidTests := true, laidLooks := .later }
def ValueFailsUptoCardSaid : Prop := Claim7.holds Tryz.pinned (.plain (OpenSpec.upto valueFailsSpec)) valueFailsUptoCard

/-- THE SECOND FORM's CARD OF 'tabularlaw15.ValueBack'. -/
def valueBackUptoCard : Claim7 := { stood := { row := valueBackUptoRow, standIns := [], harness := (true, "7f2af92c6ff2ae44b00325157e30054b203dce4898e79d239d3b6c86c566c095"), looks := true }, kinds := [], alts := [], laidByText := true, laidKinds := [.data, .data, .data, .data, .pinned], laidTests := true, laidLooks := .later }
def ValueBackUptoCardSaid : Prop := Claim7.holds Tryz.pinned (.plain (OpenSpec.upto valueBackSpec)) valueBackUptoCard
end Rows
end Go.Proofs.YtmefepbdognkdaaGreatDoor
