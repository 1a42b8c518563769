/-
  No cell of these rows narrows 'for every input' (looked for: loops, veiled, ifaces, maps, wideKeys, modest, calm, conditions, laid).
  DERIVED. THE GIVEN ROWS OF THIS SEAT. 7 by the template 'for every input the law returns true; each argument reads behind the call as it read before'; 0 by the template 'total and deterministic' (their statements: YthkcifdjfoggeaaTotals.lean).
  GIVEN WITH THE SEED: the statements are not yours to turn. If you find one false, say at which input.
  Laid BY PROGRAM, IN A SANDBOX (cutbox-rows.mjs): the forced cells as the released guide's own fill.sh prints them over the translation 03f0712350f7b0f9… (all of the seat's roots in one cut). By AI agents, Wed Nov 11 2026. No macro, syntax, notation, axiom, sorry.
-/
import Derived.Test.YthkcifdjfoggeaaChecked
import GoSem.Claim
import GoSem.ClaimJoined
import GoSem.ClaimMapViews
import Derived.JoinedTies
import Derived.KernelRfl
namespace Go.Proofs.Ythkcifdjfoggeaa
/- THE CELL 'sum', in the pinned program and in every row, IS THE sha256 OF THE DUMP (.gsa) THAT YthkcifdjfoggeaaProg.lean LOADS. Nothing in Lean hashes anything: it is a label: what it is worth is what the hold of that sum in a sandbox is worth. -/
noncomputable def Try.pinned : Pinned := { name := "ythkcifdjfoggeaa", sum := "03f0712350f7b0f97a50ee5c34bc575bdb254cdaa91c3df5519079d2802ad191", checked := Try.checked }
namespace Rows
def none {H : Type} : Left H := { results := [], args := [] }

/-- 'tabularlaw02.VintWrites': WHATEVER THE INPUT: true; the input reads as it did. -/
def vintWritesSpec : ChangeSpec := { name := "vintWrites", fn := fun _ => fun
  | [d] => { results := [.lit (.bool true)], args := [d] }
  | _ => none }
def vintWritesRow : OpenClaim := { program := "ythkcifdjfoggeaa", sum := "03f0712350f7b0f97a50ee5c34bc575bdb254cdaa91c3df5519079d2802ad191", func := "tabular/tabularlaw02.VintWrites", spec := "vintWrites", recurses := true, apart := false }
def VintWritesSaid : Prop := vintWritesRow.holds Try.pinned (OpenSpec.ofChange vintWritesSpec)

/-- ITS FALSE NEIGHBOUR: 'it returns false'. Refute it at one input. -/
def vintWritesWrong : ChangeSpec := { name := "vintWrites", fn := fun _ => fun
  | [d] => { results := [.lit (.bool false)], args := [d] }
  | _ => none }
def VintWritesWrongFalsely : Prop := vintWritesRow.holds Try.pinned (OpenSpec.ofChange vintWritesWrong)

/-- 'tabularlaw02.VintFixed': WHATEVER THE INPUT: true; the input reads as it did. -/
def vintFixedSpec : ChangeSpec := { name := "vintFixed", fn := fun _ => fun
  | [d1, d2, d3] => { results := [.lit (.bool true)], args := [d1, d2, d3] }
  | _ => none }
def vintFixedRow : OpenClaim := { program := "ythkcifdjfoggeaa", sum := "03f0712350f7b0f97a50ee5c34bc575bdb254cdaa91c3df5519079d2802ad191", func := "tabular/tabularlaw02.VintFixed", spec := "vintFixed", apart := false }
def VintFixedSaid : Prop := vintFixedRow.holds Try.pinned (OpenSpec.ofChange vintFixedSpec)

/-- ITS FALSE NEIGHBOUR: 'it returns false'. Refute it at one input. -/
def vintFixedWrong : ChangeSpec := { name := "vintFixed", fn := fun _ => fun
  | [d1, d2, d3] => { results := [.lit (.bool false)], args := [d1, d2, d3] }
  | _ => none }
def VintFixedWrongFalsely : Prop := vintFixedRow.holds Try.pinned (OpenSpec.ofChange vintFixedWrong)

/-- 'tabularlaw02.VintOrder': WHATEVER THE INPUT: true; the input reads as it did. -/
def vintOrderSpec : ChangeSpec := { name := "vintOrder", fn := fun _ => fun
  | [d] => { results := [.lit (.bool true)], args := [d] }
  | _ => none }
def vintOrderRow : OpenClaim := { program := "ythkcifdjfoggeaa", sum := "03f0712350f7b0f97a50ee5c34bc575bdb254cdaa91c3df5519079d2802ad191", func := "tabular/tabularlaw02.VintOrder", spec := "vintOrder", apart := false }
def VintOrderSaid : Prop := vintOrderRow.holds Try.pinned (OpenSpec.ofChange vintOrderSpec)

/-- ITS FALSE NEIGHBOUR: 'it returns false'. Refute it at one input. -/
def vintOrderWrong : ChangeSpec := { name := "vintOrder", fn := fun _ => fun
  | [d] => { results := [.lit (.bool false)], args := [d] }
  | _ => none }
def VintOrderWrongFalsely : Prop := vintOrderRow.holds Try.pinned (OpenSpec.ofChange vintOrderWrong)

/-- 'tabularlaw02.VintSpans': WHATEVER THE INPUT: true; the input reads as it did. -/
def vintSpansSpec : ChangeSpec := { name := "vintSpans", fn := fun _ => fun
  | [d1, d2, d3] => { results := [.lit (.bool true)], args := [d1, d2, d3] }
  | _ => none }
def vintSpansRow : OpenClaim := { program := "ythkcifdjfoggeaa", sum := "03f0712350f7b0f97a50ee5c34bc575bdb254cdaa91c3df5519079d2802ad191", func := "tabular/tabularlaw02.VintSpans", spec := "vintSpans", apart := false }
def VintSpansSaid : Prop := vintSpansRow.holds Try.pinned (OpenSpec.ofChange vintSpansSpec)

/-- ITS FALSE NEIGHBOUR: 'it returns false'. Refute it at one input. -/
def vintSpansWrong : ChangeSpec := { name := "vintSpans", fn := fun _ => fun
  | [d1, d2, d3] => { results := [.lit (.bool false)], args := [d1, d2, d3] }
  | _ => none }
def VintSpansWrongFalsely : Prop := vintSpansRow.holds Try.pinned (OpenSpec.ofChange vintSpansWrong)

/-- 'tabularlaw02.VintOne': WHATEVER THE INPUT: true; the input reads as it did. -/
def vintOneSpec : ChangeSpec := { name := "vintOne", fn := fun _ => fun
  | [d] => { results := [.lit (.bool true)], args := [d] }
  | _ => none }
def vintOneRow : OpenClaim := { program := "ythkcifdjfoggeaa", sum := "03f0712350f7b0f97a50ee5c34bc575bdb254cdaa91c3df5519079d2802ad191", func := "tabular/tabularlaw02.VintOne", spec := "vintOne", recurses := true, apart := false }
def VintOneSaid : Prop := vintOneRow.holds Try.pinned (OpenSpec.ofChange vintOneSpec)

/-- ITS FALSE NEIGHBOUR: 'it returns false'. Refute it at one input. -/
def vintOneWrong : ChangeSpec := { name := "vintOne", fn := fun _ => fun
  | [d] => { results := [.lit (.bool false)], args := [d] }
  | _ => none }
def VintOneWrongFalsely : Prop := vintOneRow.holds Try.pinned (OpenSpec.ofChange vintOneWrong)

/-- 'tabularlaw02.VintCut': WHATEVER THE INPUT: true; the input reads as it did. -/
def vintCutSpec : ChangeSpec := { name := "vintCut", fn := fun _ => fun
  | [d1, d2] => { results := [.lit (.bool true)], args := [d1, d2] }
  | _ => none }
def vintCutRow : OpenClaim := { program := "ythkcifdjfoggeaa", sum := "03f0712350f7b0f97a50ee5c34bc575bdb254cdaa91c3df5519079d2802ad191", func := "tabular/tabularlaw02.VintCut", spec := "vintCut", recurses := true, apart := false }
def VintCutSaid : Prop := vintCutRow.holds Try.pinned (OpenSpec.ofChange vintCutSpec)

/-- ITS FALSE NEIGHBOUR: 'it returns false'. Refute it at one input. -/
def vintCutWrong : ChangeSpec := { name := "vintCut", fn := fun _ => fun
  | [d1, d2] => { results := [.lit (.bool false)], args := [d1, d2] }
  | _ => none }
def VintCutWrongFalsely : Prop := vintCutRow.holds Try.pinned (OpenSpec.ofChange vintCutWrong)

/-- 'tabularlaw02.VintBack': WHATEVER THE INPUT: true; the input reads as it did. -/
def vintBackSpec : ChangeSpec := { name := "vintBack", fn := fun _ => fun
  | [d] => { results := [.lit (.bool true)], args := [d] }
  | _ => none }
def vintBackRow : OpenClaim := { program := "ythkcifdjfoggeaa", sum := "03f0712350f7b0f97a50ee5c34bc575bdb254cdaa91c3df5519079d2802ad191", func := "tabular/tabularlaw02.VintBack", spec := "vintBack", recurses := true, apart := false }
def VintBackSaid : Prop := vintBackRow.holds Try.pinned (OpenSpec.ofChange vintBackSpec)

/-- ITS FALSE NEIGHBOUR: 'it returns false'. Refute it at one input. -/
def vintBackWrong : ChangeSpec := { name := "vintBack", fn := fun _ => fun
  | [d] => { results := [.lit (.bool false)], args := [d] }
  | _ => none }
def VintBackWrongFalsely : Prop := vintBackRow.holds Try.pinned (OpenSpec.ofChange vintBackWrong)

/- THE SECOND FORM. 'bulk': how many values and letters a reading holds, each counted each time it is reached (what is shared counts as often as it is met; a slice's spare places count too). A statement '..UptoSaid' is the law's where the arguments, and the package variables that the reading takes, are together of bulk at most 1048576: NARROWER than '..Said'. Prove '..Said' where nothing that the law and all that it calls make is longer than what came in: it says more and counts as full. Else prove '..UptoSaid'. A law counts once. -/
mutual
def uptoBulk {H : Type} : DataW H → Nat
  | .lit (.string bytes) => bytes.length + 1
  | .lit _ => 1
  | .nil => 1
  | .ptr d => uptoBulk d + 1
  | .slice elems spare => uptoBulkAll elems + uptoBulkAll spare + 1
  | .agg parts => uptoBulkAll parts + 1
  | .iface _ d => uptoBulk d + 1
  | .map entries => uptoBulkEntries entries + 1
  | .held _ => 1
def uptoBulkAll {H : Type} : List (DataW H) → Nat
  | [] => 0
  | d :: r => uptoBulk d + uptoBulkAll r
def uptoBulkEntries {H : Type} : List (Lit × DataW H) → Nat
  | [] => 0
  | x :: r => uptoBulkEntry x + uptoBulkEntries r
def uptoBulkEntry {H : Type} : Lit × DataW H → Nat
  | (.string bytes, d) => bytes.length + uptoBulk d + 1
  | (_, d) => uptoBulk d + 1
 end
def uptoSmall : (H : Type) → List (DataW H) → Bool := fun _ ds => decide (uptoBulkAll ds ≤ 1048576)
def OpenSpec.upto (s : _root_.Go.ChangeSpec) : _root_.Go.OpenSpec := { _root_.Go.OpenSpec.ofChange s with cond := some uptoSmall }

/-- 'tabularlaw02.VintWrites', WHERE WHAT IT READS IS OF BULK AT MOST 1048576: true; the input reads as it did. -/
def vintWritesUptoRow : OpenClaim := { program := "ythkcifdjfoggeaa", sum := "03f0712350f7b0f97a50ee5c34bc575bdb254cdaa91c3df5519079d2802ad191", func := "tabular/tabularlaw02.VintWrites", spec := "vintWrites", recurses := true, apart := false, narrowed := true }
def VintWritesUptoSaid : Prop := vintWritesUptoRow.holds Try.pinned (OpenSpec.upto vintWritesSpec)

/-- 'tabularlaw02.VintFixed', WHERE WHAT IT READS IS OF BULK AT MOST 1048576: true; the input reads as it did. -/
def vintFixedUptoRow : OpenClaim := { program := "ythkcifdjfoggeaa", sum := "03f0712350f7b0f97a50ee5c34bc575bdb254cdaa91c3df5519079d2802ad191", func := "tabular/tabularlaw02.VintFixed", spec := "vintFixed", apart := false, narrowed := true }
def VintFixedUptoSaid : Prop := vintFixedUptoRow.holds Try.pinned (OpenSpec.upto vintFixedSpec)

/-- 'tabularlaw02.VintOrder', WHERE WHAT IT READS IS OF BULK AT MOST 1048576: true; the input reads as it did. -/
def vintOrderUptoRow : OpenClaim := { program := "ythkcifdjfoggeaa", sum := "03f0712350f7b0f97a50ee5c34bc575bdb254cdaa91c3df5519079d2802ad191", func := "tabular/tabularlaw02.VintOrder", spec := "vintOrder", apart := false, narrowed := true }
def VintOrderUptoSaid : Prop := vintOrderUptoRow.holds Try.pinned (OpenSpec.upto vintOrderSpec)

/-- 'tabularlaw02.VintSpans', WHERE WHAT IT READS IS OF BULK AT MOST 1048576: true; the input reads as it did. -/
def vintSpansUptoRow : OpenClaim := { program := "ythkcifdjfoggeaa", sum := "03f0712350f7b0f97a50ee5c34bc575bdb254cdaa91c3df5519079d2802ad191", func := "tabular/tabularlaw02.VintSpans", spec := "vintSpans", apart := false, narrowed := true }
def VintSpansUptoSaid : Prop := vintSpansUptoRow.holds Try.pinned (OpenSpec.upto vintSpansSpec)

/-- 'tabularlaw02.VintOne', WHERE WHAT IT READS IS OF BULK AT MOST 1048576: true; the input reads as it did. -/
def vintOneUptoRow : OpenClaim := { program := "ythkcifdjfoggeaa", sum := "03f0712350f7b0f97a50ee5c34bc575bdb254cdaa91c3df5519079d2802ad191", func := "tabular/tabularlaw02.VintOne", spec := "vintOne", recurses := true, apart := false, narrowed := true }
def VintOneUptoSaid : Prop := vintOneUptoRow.holds Try.pinned (OpenSpec.upto vintOneSpec)

/-- 'tabularlaw02.VintCut', WHERE WHAT IT READS IS OF BULK AT MOST 1048576: true; the input reads as it did. -/
def vintCutUptoRow : OpenClaim := { program := "ythkcifdjfoggeaa", sum := "03f0712350f7b0f97a50ee5c34bc575bdb254cdaa91c3df5519079d2802ad191", func := "tabular/tabularlaw02.VintCut", spec := "vintCut", recurses := true, apart := false, narrowed := true }
def VintCutUptoSaid : Prop := vintCutUptoRow.holds Try.pinned (OpenSpec.upto vintCutSpec)

/-- 'tabularlaw02.VintBack', WHERE WHAT IT READS IS OF BULK AT MOST 1048576: true; the input reads as it did. -/
def vintBackUptoRow : OpenClaim := { program := "ythkcifdjfoggeaa", sum := "03f0712350f7b0f97a50ee5c34bc575bdb254cdaa91c3df5519079d2802ad191", func := "tabular/tabularlaw02.VintBack", spec := "vintBack", recurses := true, apart := false, narrowed := true }
def VintBackUptoSaid : Prop := vintBackUptoRow.holds Try.pinned (OpenSpec.upto vintBackSpec)

end Rows
end Go.Proofs.Ythkcifdjfoggeaa
