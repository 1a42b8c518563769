/- addr: letters, columns, references. -/
import Derived.Test.YtkfcfpnkgljdmaaDoorBp
import Derived.Test.YtkfcfpnkgljdmaaDoorProg
namespace Go.A
open Go.Proofs
set_option maxRecDepth 100000
set_option linter.unusedSimpArgs false
set_option linter.unusedVariables false

def letterP (c : Int) : Int := if 65 ≤ c ∧ c ≤ 90 then c - 64 else if 97 ≤ c ∧ c ≤ 122 then c - 96 else 0
structure Ref where
  row : Int
  col : Int
  absRow : Bool
  absCol : Bool
  deriving DecidableEq, Inhabited
def refAV (r : Ref) : AV := .agg [.int .i64 r.row, .int .i64 r.col, .bool r.absRow, .bool r.absCol]
def Ref.good (r : Ref) : Bool := decide (0 ≤ r.row ∧ r.row < 3000 ∧ 0 ≤ r.col ∧ r.col < 700)
def Ref.zero : Ref := ⟨0, 0, false, false⟩

def movedP (r : Ref) (rows cols : Int) : Ref × Bool :=
  if (r.absRow = false ∧ (rows ≤ -3000 ∨ 3000 ≤ rows)) ∨ (r.absCol = false ∧ (cols ≤ -700 ∨ 700 ≤ cols)) then (.zero, false)
  else
    let q : Ref := ⟨if r.absRow then r.row else r.row + rows, if r.absCol then r.col else r.col + cols, r.absRow, r.absCol⟩
    if q.good then (q, true) else (.zero, false)
end Go.A
