/-
  DERIVED. GIVEN WITH THE SEED: THE CARDS: each row of YtkfcfpnkgljdmaaDoorRows.lean that lists a variable, with what it lists TIED to the program's text (the seventh form; the later family's looks); each row that meets fmt, with fmt's text TOLD by the authors' own Lean function (tested against real Go, not proved from fmt's source: count such statements apart). THE CARD IS WHAT COUNTS. Prove the row's statement (the work); the ties are given (YtkfcfpnkgljdmaaDoorTie.lean); close each card by the builder's one call (the guide's Derived/Test/ToyasCard.lean, 'card_holds'). Laid BY PROGRAM, IN A SANDBOX (cutbox-door.mjs). By AI agents, Wed Nov 11 2026. No macro, syntax, notation, axiom, sorry.
-/
import Derived.Test.YtkfcfpnkgljdmaaDoorRows
import GoSem.ClaimSeven
namespace Go.Proofs.YtkfcfpnkgljdmaaDoor
namespace Rows

/-- THE TIED CARD OF 'tabularlaw12.ExprChains'. -/
def exprChainsCard : Claim7 := { stood := { row := exprChainsRow, standIns := [], harness := (true, "c42d984dc88841aea5351ca8ca9f2b1ed1a8552b68f7f4e12ddd4ea9610d49b3"), looks := false }, kinds := [], alts := [], laidByText := true, laidKinds := [.data, .data, .data, .data, .pinned], laidTests := true, laidLooks := .later }
def ExprChainsCardSaid : Prop := Claim7.holds Tryd.pinned (.plain (OpenSpec.ofChange exprChainsSpec)) exprChainsCard

/-- THE TIED CARD OF 'tabularlaw12.ExprMaps'. -/
def exprMapsCard : Claim7 := { stood := { row := exprMapsRow, standIns := [], harness := (true, "c42d984dc88841aea5351ca8ca9f2b1ed1a8552b68f7f4e12ddd4ea9610d49b3"), looks := false }, kinds := [], alts := [], laidByText := true, laidKinds := [.data, .data, .data, .data, .pinned], laidTests := true, laidLooks := .later }
def ExprMapsCardSaid : Prop := Claim7.holds Tryd.pinned (.plain (OpenSpec.ofChange exprMapsSpec)) exprMapsCard

/-- THE SECOND FORM's CARD OF 'tabularlaw12.ExprChains'. -/
def exprChainsUptoCard : Claim7 := { stood := { row := exprChainsUptoRow, standIns := [], harness := (true, "c42d984dc88841aea5351ca8ca9f2b1ed1a8552b68f7f4e12ddd4ea9610d49b3"), looks := false }, kinds := [], alts := [], laidByText := true, laidKinds := [.data, .data, .data, .data, .pinned], laidTests := true, laidLooks := .later }
def ExprChainsUptoCardSaid : Prop := Claim7.holds Tryd.pinned (.plain (OpenSpec.upto exprChainsSpec)) exprChainsUptoCard

/-- THE SECOND FORM's CARD OF 'tabularlaw12.ExprMaps'. -/
def exprMapsUptoCard : Claim7 := { stood := { row := exprMapsUptoRow, standIns := [], harness := (true, "c42d984dc88841aea5351ca8ca9f2b1ed1a8552b68f7f4e12ddd4ea9610d49b3"), looks := false }, kinds := [], alts := [], laidByText := true, laidKinds := [.data, .data, .data, .data, .pinned], laidTests := true, laidLooks := .later }
def ExprMapsUptoCardSaid : Prop := Claim7.holds Tryd.pinned (.plain (OpenSpec.upto exprMapsSpec)) exprMapsUptoCard
end Rows
end Go.Proofs.YtkfcfpnkgljdmaaDoor
