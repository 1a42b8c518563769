/-
  DERIVED. GIVEN WITH THE SEED: THE CARDS: each row of YtennoafgkkoeaaaGreatDoorRows.lean that lists a variable, with what it lists TIED to the program's text (the seventh form; the later family's looks); each row that meets fmt, with fmt's text TOLD by the authors' own Lean function (tested against real Go, not proved from fmt's source: count such statements apart). THE CARD IS WHAT COUNTS. Prove the row's statement (the work); the ties are given (YtennoafgkkoeaaaGreatDoorTie.lean); close each card by the builder's one call (the guide's Derived/Test/ToyasCard.lean, 'card_holds'). Laid BY PROGRAM, IN A SANDBOX (cutbox-door.mjs). By AI agents, Wed Nov 11 2026. No macro, syntax, notation, axiom, sorry.
-/
import Derived.Test.YtennoafgkkoeaaaGreatDoorRows
import GoSem.ClaimSeven
namespace Go.Proofs.YtennoafgkkoeaaaGreatDoor
namespace Rows

/-- THE TIED CARD OF 'tabularlaw12.ExprTells'. -/
def exprTellsCard : Claim7 := { stood := { row := exprTellsRow, standIns := [], harness := (true, "43ae433b9b77f2985a7c44d0cb5622b1178f29c3c9afc7e0ecbcc6aa1f53a2b0"), looks := false }, kinds := [], alts := [], laidByText := true, laidKinds := [.data, .data, .data, .data, .pinned], laidTests := true, laidLooks := .later }
def ExprTellsCardSaid : Prop := Claim7.holds Tryz.pinned (.plain (OpenSpec.ofChange exprTellsSpec)) exprTellsCard

/-- THE TIED CARD OF 'tabularlaw12.ExprOne'. -/
def exprOneCard : Claim7 := { stood := { row := exprOneRow, standIns := [], harness := (true, "43ae433b9b77f2985a7c44d0cb5622b1178f29c3c9afc7e0ecbcc6aa1f53a2b0"), looks := false }, kinds := [], alts := [], laidByText := true, laidKinds := [.data, .data, .data, .data, .pinned], laidTests := true, laidLooks := .later }
def ExprOneCardSaid : Prop := Claim7.holds Tryz.pinned (.plain (OpenSpec.ofChange exprOneSpec)) exprOneCard

/-- THE TIED CARD OF 'tabularlaw12.ExprBack'. -/
def exprBackCard : Claim7 := { stood := { row := exprBackRow, standIns := [], harness := (true, "43ae433b9b77f2985a7c44d0cb5622b1178f29c3c9afc7e0ecbcc6aa1f53a2b0"), looks := false }, kinds := [], alts := [], laidByText := true, laidKinds := [.data, .data, .data, .data, .pinned], laidTests := true, laidLooks := .later }
def ExprBackCardSaid : Prop := Claim7.holds Tryz.pinned (.plain (OpenSpec.ofChange exprBackSpec)) exprBackCard

/-- THE SECOND FORM's CARD OF 'tabularlaw12.ExprTells'. -/
def exprTellsUptoCard : Claim7 := { stood := { row := exprTellsUptoRow, standIns := [], harness := (true, "43ae433b9b77f2985a7c44d0cb5622b1178f29c3c9afc7e0ecbcc6aa1f53a2b0"), looks := false }, kinds := [], alts := [], laidByText := true, laidKinds := [.data, .data, .data, .data, .pinned], laidTests := true, laidLooks := .later }
def ExprTellsUptoCardSaid : Prop := Claim7.holds Tryz.pinned (.plain (OpenSpec.upto exprTellsSpec)) exprTellsUptoCard

/-- THE SECOND FORM's CARD OF 'tabularlaw12.ExprOne'. -/
def exprOneUptoCard : Claim7 := { stood := { row := exprOneUptoRow, standIns := [], harness := (true, "43ae433b9b77f2985a7c44d0cb5622b1178f29c3c9afc7e0ecbcc6aa1f53a2b0"), looks := false }, kinds := [], alts := [], laidByText := true, laidKinds := [.data, .data, .data, .data, .pinned], laidTests := true, laidLooks := .later }
def ExprOneUptoCardSaid : Prop := Claim7.holds Tryz.pinned (.plain (OpenSpec.upto exprOneSpec)) exprOneUptoCard

/-- THE SECOND FORM's CARD OF 'tabularlaw12.ExprBack'. -/
def exprBackUptoCard : Claim7 := { stood := { row := exprBackUptoRow, standIns := [], harness := (true, "43ae433b9b77f2985a7c44d0cb5622b1178f29c3c9afc7e0ecbcc6aa1f53a2b0"), looks := false }, kinds := [], alts := [], laidByText := true, laidKinds := [.data, .data, .data, .data, .pinned], laidTests := true, laidLooks := .later }
def ExprBackUptoCardSaid : Prop := Claim7.holds Tryz.pinned (.plain (OpenSpec.upto exprBackSpec)) exprBackUptoCard
end Rows
end Go.Proofs.YtennoafgkkoeaaaGreatDoor
