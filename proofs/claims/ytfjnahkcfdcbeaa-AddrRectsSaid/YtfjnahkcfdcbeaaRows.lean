/-
  No cell of these rows narrows 'for every input' (looked for: loops, veiled, ifaces, maps, wideKeys, modest, calm, conditions, laid).
  DERIVED. THE GIVEN ROWS OF THIS SEAT. 5 by the template 'for every input the law returns true; each argument reads behind the call as it read before'; 0 by the template 'total and deterministic' (their statements: YtfjnahkcfdcbeaaTotals.lean).
  GIVEN WITH THE SEED: the statements are not yours to turn. If you find one false, say at which input.
  Laid BY PROGRAM, IN A SANDBOX (cutbox-rows.mjs): the forced cells as the released guide's own fill.sh prints them over the translation d10f9f77dde16ff5… (all of the seat's roots in one cut). By AI agents, Wed Nov 11 2026. No macro, syntax, notation, axiom, sorry.
-/
import Derived.Test.YtfjnahkcfdcbeaaChecked
import GoSem.Claim
import GoSem.ClaimJoined
import GoSem.ClaimMapViews
import Derived.JoinedTies
import Derived.KernelRfl
namespace Go.Proofs.Ytfjnahkcfdcbeaa
/- THE CELL 'sum', in the pinned program and in every row, IS THE sha256 OF THE DUMP (.gsa) THAT YtfjnahkcfdcbeaaProg.lean LOADS. Nothing in Lean hashes anything: it is a label: what it is worth is what the hold of that sum in a sandbox is worth. -/
noncomputable def Try.pinned : Pinned := { name := "ytfjnahkcfdcbeaa", sum := "d10f9f77dde16ff528ab946c93e990ed5634769ae18b6fccf3243e54026ef8c1", checked := Try.checked }
namespace Rows
def none {H : Type} : Left H := { results := [], args := [] }

/-- 'tabularlaw10.AddrNames': WHATEVER THE INPUT: true; the input reads as it did. -/
def addrNamesSpec : ChangeSpec := { name := "addrNames", fn := fun _ => fun
  | [d1, d2] => { results := [.lit (.bool true)], args := [d1, d2] }
  | _ => none }
def addrNamesRow : OpenClaim := { program := "ytfjnahkcfdcbeaa", sum := "d10f9f77dde16ff528ab946c93e990ed5634769ae18b6fccf3243e54026ef8c1", func := "tabular/tabularlaw10.AddrNames", spec := "addrNames", apart := false }
def AddrNamesSaid : Prop := addrNamesRow.holds Try.pinned (OpenSpec.ofChange addrNamesSpec)

/-- ITS FALSE NEIGHBOUR: 'it returns false'. Refute it at one input. -/
def addrNamesWrong : ChangeSpec := { name := "addrNames", fn := fun _ => fun
  | [d1, d2] => { results := [.lit (.bool false)], args := [d1, d2] }
  | _ => none }
def AddrNamesWrongFalsely : Prop := addrNamesRow.holds Try.pinned (OpenSpec.ofChange addrNamesWrong)

/-- 'tabularlaw10.AddrColumns': WHATEVER THE INPUT: true; the input reads as it did. -/
def addrColumnsSpec : ChangeSpec := { name := "addrColumns", fn := fun _ => fun
  | [d1, d2] => { results := [.lit (.bool true)], args := [d1, d2] }
  | _ => none }
def addrColumnsRow : OpenClaim := { program := "ytfjnahkcfdcbeaa", sum := "d10f9f77dde16ff528ab946c93e990ed5634769ae18b6fccf3243e54026ef8c1", func := "tabular/tabularlaw10.AddrColumns", spec := "addrColumns", apart := false }
def AddrColumnsSaid : Prop := addrColumnsRow.holds Try.pinned (OpenSpec.ofChange addrColumnsSpec)

/-- ITS FALSE NEIGHBOUR: 'it returns false'. Refute it at one input. -/
def addrColumnsWrong : ChangeSpec := { name := "addrColumns", fn := fun _ => fun
  | [d1, d2] => { results := [.lit (.bool false)], args := [d1, d2] }
  | _ => none }
def AddrColumnsWrongFalsely : Prop := addrColumnsRow.holds Try.pinned (OpenSpec.ofChange addrColumnsWrong)

/-- 'tabularlaw10.AddrNorm': WHATEVER THE INPUT: true; the input reads as it did. -/
def addrNormSpec : ChangeSpec := { name := "addrNorm", fn := fun _ => fun
  | [d1, d2, d3, d4] => { results := [.lit (.bool true)], args := [d1, d2, d3, d4] }
  | _ => none }
def addrNormRow : OpenClaim := { program := "ytfjnahkcfdcbeaa", sum := "d10f9f77dde16ff528ab946c93e990ed5634769ae18b6fccf3243e54026ef8c1", func := "tabular/tabularlaw10.AddrNorm", spec := "addrNorm", apart := false }
def AddrNormSaid : Prop := addrNormRow.holds Try.pinned (OpenSpec.ofChange addrNormSpec)

/-- ITS FALSE NEIGHBOUR: 'it returns false'. Refute it at one input. -/
def addrNormWrong : ChangeSpec := { name := "addrNorm", fn := fun _ => fun
  | [d1, d2, d3, d4] => { results := [.lit (.bool false)], args := [d1, d2, d3, d4] }
  | _ => none }
def AddrNormWrongFalsely : Prop := addrNormRow.holds Try.pinned (OpenSpec.ofChange addrNormWrong)

/-- 'tabularlaw10.AddrThere': WHATEVER THE INPUT: true; the input reads as it did. -/
def addrThereSpec : ChangeSpec := { name := "addrThere", fn := fun _ => fun
  | [d1, d2, d3] => { results := [.lit (.bool true)], args := [d1, d2, d3] }
  | _ => none }
def addrThereRow : OpenClaim := { program := "ytfjnahkcfdcbeaa", sum := "d10f9f77dde16ff528ab946c93e990ed5634769ae18b6fccf3243e54026ef8c1", func := "tabular/tabularlaw10.AddrThere", spec := "addrThere", apart := false }
def AddrThereSaid : Prop := addrThereRow.holds Try.pinned (OpenSpec.ofChange addrThereSpec)

/-- ITS FALSE NEIGHBOUR: 'it returns false'. Refute it at one input. -/
def addrThereWrong : ChangeSpec := { name := "addrThere", fn := fun _ => fun
  | [d1, d2, d3] => { results := [.lit (.bool false)], args := [d1, d2, d3] }
  | _ => none }
def AddrThereWrongFalsely : Prop := addrThereRow.holds Try.pinned (OpenSpec.ofChange addrThereWrong)

/-- 'tabularlaw10.AddrRects': WHATEVER THE INPUT: true; the input reads as it did. -/
def addrRectsSpec : ChangeSpec := { name := "addrRects", fn := fun _ => fun
  | [d1, d2, d3, d4] => { results := [.lit (.bool true)], args := [d1, d2, d3, d4] }
  | _ => none }
def addrRectsRow : OpenClaim := { program := "ytfjnahkcfdcbeaa", sum := "d10f9f77dde16ff528ab946c93e990ed5634769ae18b6fccf3243e54026ef8c1", func := "tabular/tabularlaw10.AddrRects", spec := "addrRects", unfollowed := true, recurses := true, apart := false }
def AddrRectsSaid : Prop := addrRectsRow.holds Try.pinned (OpenSpec.ofChange addrRectsSpec)

/-- ITS FALSE NEIGHBOUR: 'it returns false'. Refute it at one input. -/
def addrRectsWrong : ChangeSpec := { name := "addrRects", fn := fun _ => fun
  | [d1, d2, d3, d4] => { results := [.lit (.bool false)], args := [d1, d2, d3, d4] }
  | _ => none }
def AddrRectsWrongFalsely : Prop := addrRectsRow.holds Try.pinned (OpenSpec.ofChange addrRectsWrong)

/- THE SECOND FORM. 'bulk': how many values and letters a reading holds, each counted each time it is reached (what is shared counts as often as it is met; a slice's spare places count too). A statement '..UptoSaid' is the law's where the arguments, and the package variables that the reading takes, are together of bulk at most 1048576: NARROWER than '..Said'. Prove '..Said' where nothing that the law and all that it calls make is longer than what came in: it says more and counts as full. Else prove '..UptoSaid'. A law counts once. -/
mutual
def uptoBulk {H : Type} : DataW H → Nat
  | .lit (.string bytes) => bytes.length + 1
  | .lit _ => 1
  | .nil => 1
  | .ptr d => uptoBulk d + 1
  | .slice elems spare => uptoBulkAll elems + uptoBulkAll spare + 1
  | .agg parts => uptoBulkAll parts + 1
  | .iface _ d => uptoBulk d + 1
  | .map entries => uptoBulkEntries entries + 1
  | .held _ => 1
def uptoBulkAll {H : Type} : List (DataW H) → Nat
  | [] => 0
  | d :: r => uptoBulk d + uptoBulkAll r
def uptoBulkEntries {H : Type} : List (Lit × DataW H) → Nat
  | [] => 0
  | x :: r => uptoBulkEntry x + uptoBulkEntries r
def uptoBulkEntry {H : Type} : Lit × DataW H → Nat
  | (.string bytes, d) => bytes.length + uptoBulk d + 1
  | (_, d) => uptoBulk d + 1
 end
def uptoSmall : (H : Type) → List (DataW H) → Bool := fun _ ds => decide (uptoBulkAll ds ≤ 1048576)
def OpenSpec.upto (s : _root_.Go.ChangeSpec) : _root_.Go.OpenSpec := { _root_.Go.OpenSpec.ofChange s with cond := some uptoSmall }

/-- 'tabularlaw10.AddrNames', WHERE WHAT IT READS IS OF BULK AT MOST 1048576: true; the input reads as it did. -/
def addrNamesUptoRow : OpenClaim := { program := "ytfjnahkcfdcbeaa", sum := "d10f9f77dde16ff528ab946c93e990ed5634769ae18b6fccf3243e54026ef8c1", func := "tabular/tabularlaw10.AddrNames", spec := "addrNames", apart := false, narrowed := true }
def AddrNamesUptoSaid : Prop := addrNamesUptoRow.holds Try.pinned (OpenSpec.upto addrNamesSpec)

/-- 'tabularlaw10.AddrColumns', WHERE WHAT IT READS IS OF BULK AT MOST 1048576: true; the input reads as it did. -/
def addrColumnsUptoRow : OpenClaim := { program := "ytfjnahkcfdcbeaa", sum := "d10f9f77dde16ff528ab946c93e990ed5634769ae18b6fccf3243e54026ef8c1", func := "tabular/tabularlaw10.AddrColumns", spec := "addrColumns", apart := false, narrowed := true }
def AddrColumnsUptoSaid : Prop := addrColumnsUptoRow.holds Try.pinned (OpenSpec.upto addrColumnsSpec)

/-- 'tabularlaw10.AddrNorm', WHERE WHAT IT READS IS OF BULK AT MOST 1048576: true; the input reads as it did. -/
def addrNormUptoRow : OpenClaim := { program := "ytfjnahkcfdcbeaa", sum := "d10f9f77dde16ff528ab946c93e990ed5634769ae18b6fccf3243e54026ef8c1", func := "tabular/tabularlaw10.AddrNorm", spec := "addrNorm", apart := false, narrowed := true }
def AddrNormUptoSaid : Prop := addrNormUptoRow.holds Try.pinned (OpenSpec.upto addrNormSpec)

/-- 'tabularlaw10.AddrThere', WHERE WHAT IT READS IS OF BULK AT MOST 1048576: true; the input reads as it did. -/
def addrThereUptoRow : OpenClaim := { program := "ytfjnahkcfdcbeaa", sum := "d10f9f77dde16ff528ab946c93e990ed5634769ae18b6fccf3243e54026ef8c1", func := "tabular/tabularlaw10.AddrThere", spec := "addrThere", apart := false, narrowed := true }
def AddrThereUptoSaid : Prop := addrThereUptoRow.holds Try.pinned (OpenSpec.upto addrThereSpec)

/-- 'tabularlaw10.AddrRects', WHERE WHAT IT READS IS OF BULK AT MOST 1048576: true; the input reads as it did. -/
def addrRectsUptoRow : OpenClaim := { program := "ytfjnahkcfdcbeaa", sum := "d10f9f77dde16ff528ab946c93e990ed5634769ae18b6fccf3243e54026ef8c1", func := "tabular/tabularlaw10.AddrRects", spec := "addrRects", unfollowed := true, recurses := true, apart := false, narrowed := true }
def AddrRectsUptoSaid : Prop := addrRectsUptoRow.holds Try.pinned (OpenSpec.upto addrRectsSpec)

end Rows
end Go.Proofs.Ytfjnahkcfdcbeaa
