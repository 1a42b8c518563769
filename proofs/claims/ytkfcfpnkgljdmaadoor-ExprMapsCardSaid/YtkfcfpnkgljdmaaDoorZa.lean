/- A formula's text as tokens, plain. No program in sight. -/
import Derived.Test.YtkfcfpnkgljdmaaDoorTg
import Derived.Lib.MapLaws
import Derived.Lib.RuneCount
namespace Go.A
open Go.Proofs Go.Lib
set_option maxRecDepth 100000
set_option linter.unusedSimpArgs false
set_option linter.unusedVariables false

/-- How many signs. -/
def signsN (l : List UInt8) : Nat := runeCount ⟨⟨l⟩⟩
theorem signsN_le (l : List UInt8) : signsN l ≤ l.length := runeCount_le ⟨⟨l⟩⟩
def wordB (c : UInt8) : Bool := decide ((48 ≤ c.toNat ∧ c.toNat ≤ 57) ∨ (97 ≤ c.toNat ∧ c.toNat ≤ 122) ∨ (65 ≤ c.toNat ∧ c.toNat ≤ 90) ∨ c.toNat = 95 ∨ c.toNat = 36 ∨ c.toNat = 46)
def digB (c : UInt8) : Bool := decide (48 ≤ c.toNat ∧ c.toNat ≤ 57)
/-- A name: letters, digits, _ and full stops, no digit and no full stop first. -/
def nameB (s : List UInt8) : Bool := decide (s ≠ []) && s.all (fun c => wordB c && decide (c.toNat ≠ 36)) && !((s.head?.map fun c => digB c || decide (c.toNat = 46)).getD false)
/-- What stands ahead of the first full stop; what behind it. -/
def cutDot : List UInt8 → List UInt8 × Option (List UInt8)
  | [] => ([], none)
  | c :: r => if c.toNat = 46 then ([], some r) else (c :: (cutDot r).1, (cutDot r).2)
def numB (s : List UInt8) : Bool :=
  match cutDot s with
  | (w, none) => decide (w ≠ []) && w.all digB
  | (w, some p) => decide (w ≠ []) && decide (p ≠ []) && decide (p.length ≤ 4) && (w ++ p).all digB
def refB (s : List UInt8) : Bool := (parseP s).2
/-- What stands next: nothing that may stand (so far on); a blank; a token of so many bytes. -/
inductive Step where
  | bad (k : Nat)
  | blank
  | tok (kind : Int) (text : List UInt8) (n : Nat)
  deriving DecidableEq
def wordsS (r : List UInt8) : Step :=
  let n := runL wordB r
  let w := r.take n
  if numB w then .tok 1 w n else if refB w then .tok 4 (greatP w) n else if nameB w then .tok 3 (greatP w) n else .bad 0
/-- Behind a quote: the signs so far, how far. -/
def quotedF : Nat → List UInt8 → Nat → List UInt8 → Step
  | 0, _, _, _ => .bad 0
  | k + 1, r, p, acc =>
    if r = [] then .bad 0
    else if decodeL r = (65533, 1) then .bad (1 + p)
    else if (decodeL r).1 ≠ 34 then quotedF k (r.drop (decodeL r).2) (p + (decodeL r).2) (acc ++ encodeRune ((decodeL r).1 : Int))
    else if r[1]? = some 34 then quotedF k (r.drop 2) (p + 2) (acc ++ [34])
    else .tok 2 acc (p + 2)
def errTexts : List (List UInt8) := [[35, 68, 73, 86, 47, 48, 33], [35, 78, 85, 77, 33], [35, 86, 65, 76, 85, 69, 33], [35, 82, 69, 70, 33], [35, 78, 47, 65], [35, 78, 65, 77, 69, 63], [35, 67, 89, 67, 76, 69, 33]]
def failS (r : List UInt8) : List (List UInt8) → Step
  | [] => .bad 0
  | e :: es => if e.length ≤ r.length ∧ greatP (r.take e.length) = e then .tok 5 e e.length else failS r es
def alikeP (c : Int) : List UInt8 :=
  if c = 8804 then [60, 61] else if c = 8805 then [62, 61] else if c = 8800 then [60, 62] else if c = 215 then [42] else if c = 247 then [47] else if c = 8722 then [45] else []
def twos : List (List UInt8) := [[60, 61], [62, 61], [60, 62]]
def twoS (r : List UInt8) : List (List UInt8) → Option (List UInt8)
  | [] => none
  | e :: es => if e.isPrefixOf r then some e else twoS r es
def opChars : List UInt8 := [43, 45, 42, 47, 94, 38, 61, 60, 62, 37, 40, 41, 58, 44]
def opS (c : Int) (n : Nat) (r : List UInt8) : Step :=
  if alikeP c ≠ [] then .tok 6 (alikeP c) n
  else match twoS r twos with
    | some e => .tok 6 e 2
    | none => if (r.headD 0) ∈ opChars then .tok 6 (r.take 1) 1 else .bad 0
def stepP (r : List UInt8) : Step :=
  let c := (decodeL r).1
  if decodeL r = (65533, 1) then .bad 0
  else if c = 32 ∨ c = 9 ∨ c = 10 then .blank
  else if c < 128 ∧ wordB (UInt8.ofNat c) = true then wordsS r
  else if c = 34 then quotedF (r.length) (r.drop 1) 0 []
  else if c = 35 then failS r errTexts
  else opS c (decodeL r).2 r
structure Tok where
  kind : Int
  text : List UInt8
  at' : Nat
  col : Nat
  deriving DecidableEq
/-- The tokens from a place on. -/
def lexF : Nat → List UInt8 → Nat → Nat → List Tok → List Tok × Nat × Int
  | 0, _, a, _, acc => ([], a, 10)
  | k + 1, r, a, c, acc =>
    if r = [] then (acc ++ [⟨0, [], a, c⟩], 0, 0)
    else match stepP r with
      | .bad j => ([], a + j, 10)
      | .blank => lexF k (r.drop 1) (a + 1) (c + 1) acc
      | .tok kind t n => lexF k (r.drop n) (a + n) (c + signsN (r.take n)) (acc ++ [⟨kind, t, a, c⟩])
def lexP (s : List UInt8) : List Tok × Nat × Int := if 2000 < s.length then ([], 0, 11) else lexF (s.length + 1) s 0 0 []
/-- How many signs; is it all signs? -/
def sgF : Nat → List UInt8 → Option Nat
  | 0, _ => none
  | k + 1, r => if r = [] then some 0 else if decodeL r = (65533, 1) then none else (sgF k (r.drop (decodeL r).2)).map (· + 1)
def signsP (s : List UInt8) : Int × Bool := match sgF (s.length + 1) s with
  | some n => (n, true)
  | none => (0, false)
def quoteP (s : List UInt8) : List UInt8 := 34 :: (s.flatMap fun c => if c = 34 then [34, 34] else [c]) ++ [34]
def tokAV (t : Tok) : AV := .agg [.int .i64 t.kind, .str t.text, .int .i64 t.at', .int .i64 t.col]
end Go.A
