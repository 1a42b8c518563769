/- addr: references are read. -/
import Derived.Test.YtkfcfpnkgljdmaaDoorGb
namespace Go.A
open Go.Proofs
set_option maxRecDepth 100000
set_option linter.unusedSimpArgs false
set_option linter.unusedVariables false

def atP (l : List UInt8) (i : Nat) : Int := match l[i]? with
  | some c => c.toNat
  | none => 0
theorem atP_bd (l : List UInt8) (i : Nat) : 0 ≤ atP l i ∧ atP l i ≤ 255 := by
  unfold atP
  split
  · rename_i c _; have := c.toNat_lt; omega
  · omega
def runL (p : UInt8 → Bool) : List UInt8 → Nat
  | [] => 0
  | c :: cs => if p c then runL p cs + 1 else 0
theorem runL_le (p : UInt8 → Bool) : ∀ l, runL p l ≤ l.length
  | [] => Nat.le_refl _
  | c :: cs => by
    have := runL_le p cs
    unfold runL
    split <;> simp <;> omega
def isL (c : UInt8) : Bool := decide (0 < letterP c.toNat)
def isD (c : UInt8) : Bool := decide (48 ≤ c.toNat ∧ c.toNat ≤ 57)
def numF : Int → List UInt8 → Int
  | n, [] => n
  | n, c :: cs => if isD c then numF (min (10 * n + (c.toNat - 48)) 3001) cs else n
/-- From the row's digits on. -/
def readQ (l : List UInt8) (i : Nat) (col : Int) (ar ac : Bool) : Ref × Int :=
  if numF 0 (l.drop i) < 1 ∨ 3000 < numF 0 (l.drop i) ∨ atP l i = 48 ∨ 0 < letterP (atP l (i + runL isD (l.drop i))) ∨ atP l (i + runL isD (l.drop i)) = 95 then (.zero, 0)
  else (⟨numF 0 (l.drop i) - 1, col, ar, ac⟩, (i + runL isD (l.drop i) : Nat))

theorem u8_eq {c : UInt8} {n : Nat} (hn : n < 256) : (c.toNat : Int) = n ↔ c = UInt8.ofNat n := by
  constructor
  · intro h
    have h : c.toNat = n := by omega
    rw [← h]; simp
  · rintro rfl
    simp; omega

/-- From the letters on. -/
def readR (l : List UInt8) (i : Nat) (ac : Bool) : Ref × Int :=
  if (columnP ((l.take (i + runL isL (l.drop i))).drop i)).2 = false then (.zero, 0)
  else if atP l (i + runL isL (l.drop i)) = 36 then readQ l (i + runL isL (l.drop i) + 1) (columnP ((l.take (i + runL isL (l.drop i))).drop i)).1 true ac
  else readQ l (i + runL isL (l.drop i)) (columnP ((l.take (i + runL isL (l.drop i))).drop i)).1 false ac

/-- A reference at the beginning of a text, and how many bytes it has. -/
def readP (l : List UInt8) : Ref × Int := if atP l 0 = 36 then readR l 1 true else readR l 0 false
end Go.A
