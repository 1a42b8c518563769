/-
  DERIVED. GIVEN WITH THE SEED: THE CARDS: each row of YtkbomeigndfbhaaDoorRows.lean that lists a variable, with what it lists TIED to the program's text (the seventh form; the later family's looks); each row that meets fmt, with fmt's text TOLD by the authors' own Lean function (tested against real Go, not proved from fmt's source: count such statements apart). THE CARD IS WHAT COUNTS. Prove the row's statement (the work); the ties are given (YtkbomeigndfbhaaDoorTie.lean); close each card by the builder's one call (the guide's Derived/Test/ToyasCard.lean, 'card_holds'). Laid BY PROGRAM, IN A SANDBOX (cutbox-door.mjs). By AI agents, Wed Nov 11 2026. No macro, syntax, notation, axiom, sorry.
-/
import Derived.Test.YtkbomeigndfbhaaDoorRows
import GoSem.ClaimSeven
namespace Go.Proofs.YtkbomeigndfbhaaDoor
namespace Rows

/-- THE TIED CARD OF 'tabulartop.TabularSpoilt'. -/
def tabularSpoiltCard : Claim7 := { stood := { row := tabularSpoiltRow, standIns := [], harness := (true, "69e53189c74d68fa855e85748c333d67d7904ba4b6e1592e4b069e2628f5bd26"), looks := false }, kinds := [], alts := [], laidByText := true, laidKinds := [.data], laidTests := true, laidLooks := .later }
def TabularSpoiltCardSaid : Prop := Claim7.holds Tryd.pinned (.plain (OpenSpec.ofChange tabularSpoiltSpec)) tabularSpoiltCard

/-- THE TIED CARD OF 'tabulartop.TabularPages'. -/
def tabularPagesCard : Claim7 := { stood := { row := tabularPagesRow, standIns := [], harness := (true, "69e53189c74d68fa855e85748c333d67d7904ba4b6e1592e4b069e2628f5bd26"), looks := false }, kinds := [], alts := [], laidByText := true, laidKinds := [.data, .data, .data, .data, .data, .pinned], laidTests := true, laidLooks := .later }
def TabularPagesCardSaid : Prop := Claim7.holds Tryd.pinned (.plain (OpenSpec.ofChange tabularPagesSpec)) tabularPagesCard

/-- THE SECOND FORM's CARD OF 'tabulartop.TabularSpoilt'. -/
def tabularSpoiltUptoCard : Claim7 := { stood := { row := tabularSpoiltUptoRow, standIns := [], harness := (true, "69e53189c74d68fa855e85748c333d67d7904ba4b6e1592e4b069e2628f5bd26"), looks := false }, kinds := [], alts := [], laidByText := true, laidKinds := [.data], laidTests := true, laidLooks := .later }
def TabularSpoiltUptoCardSaid : Prop := Claim7.holds Tryd.pinned (.plain (OpenSpec.upto tabularSpoiltSpec)) tabularSpoiltUptoCard

/-- THE SECOND FORM's CARD OF 'tabulartop.TabularPages'. -/
def tabularPagesUptoCard : Claim7 := { stood := { row := tabularPagesUptoRow, standIns := [], harness := (true, "69e53189c74d68fa855e85748c333d67d7904ba4b6e1592e4b069e2628f5bd26"), looks := false }, kinds := [], alts := [], laidByText := true, laidKinds := [.data, .data, .data, .data, .data, .pinned], laidTests := true, laidLooks := .later }
def TabularPagesUptoCardSaid : Prop := Claim7.holds Tryd.pinned (.plain (OpenSpec.upto tabularPagesSpec)) tabularPagesUptoCard
end Rows
end Go.Proofs.YtkbomeigndfbhaaDoor
