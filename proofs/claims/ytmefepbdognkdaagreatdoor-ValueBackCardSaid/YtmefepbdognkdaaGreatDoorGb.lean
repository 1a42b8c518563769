/- addr: a column's name, and the column of a name. -/
import Derived.Test.YtmefepbdognkdaaGreatDoorGa
namespace Go.A
open Go.Proofs
set_option maxRecDepth 100000
set_option linter.unusedSimpArgs false
set_option linter.unusedVariables false

/-- The letters of n, n from 1 on; k of them at most. -/
def lettersF : Nat → Nat → List UInt8
  | 0, _ => []
  | k + 1, n => if n = 0 then [] else lettersF k ((n - 1) / 26) ++ [UInt8.ofNat (65 + (n - 1) % 26)]
def lettersP (col : Int) : List UInt8 := if col < 0 ∨ 700 ≤ col then [] else lettersF 4 (col + 1).toNat

def colF : Int → List UInt8 → Option Int
  | n, [] => some n
  | n, c :: cs => if letterP c.toNat = 0 ∨ 700 < n then none else colF (26 * n + letterP c.toNat) cs
def columnP (l : List UInt8) : Int × Bool :=
  match colF 0 l with
  | some n => if n < 1 ∨ 700 < n then (0, false) else (n - 1, true)
  | none => (0, false)
theorem letterP_bd (c : Int) : 0 ≤ letterP c ∧ letterP c ≤ 26 := by
  unfold letterP
  split
  · omega
  · split <;> omega
end Go.A
