/- The store of the rows of maths: utf8's two tables, the program's powers of ten. -/
import Derived.Test.YtmefepbdognkdaaDoorMs
namespace Go.Proofs.YtmefepbdognkdaaDoor
open Go Go.ChangeShapes Go.WideShapes Go.ChangeAt Go.RowKit Go.A Go.Lib Go.Shelf
set_option maxRecDepth 100000
set_option linter.unusedVariables false

def laidM : List (String × DataW Unit) := [("unicode/utf8.acceptRanges", Rows.laid_unicode_utf8_acceptRanges), ("tabular/deci.tens", Rows.laid_tabular_deci_tens), ("unicode/utf8.first", Rows.laid_unicode_utf8_first)]
def mPs : List (Nat × List AV) := [(2, firstTab.map (AV.int .u8)), (3, accTab.map (AV.int .u8)), (0, [.sl .shr (tensL.map (AV.int .u64))])]
def mSt : ASt := stOf mPs
theorem mSt_u8 : U8 mSt := ⟨by simp [mSt, mPs, stOf], by simp [mSt, mPs, stOf]⟩
theorem mSt_tens : Tens mSt := by simp [Tens, mSt, mPs, stOf]
theorem m_sim {W : World} (h : laidMetH Tryd.prog laidM W) : Sim mSt W := by
  rw [MakeChecks.laidMetH_plain _ _ _ (by kernel_rfl)] at h
  have h4 : VarReads Tryd.prog W "unicode/utf8.acceptRanges" acceptData := acc_eq ▸ Lib.laidMet.reads h (.head _)
  have h5 : VarReads Tryd.prog W "tabular/deci.tens" (.slice (tensL.map fun x => .lit (.int .u64 x)) []) := Lib.laidMet.reads h (.tail _ (.head _))
  have h3 : VarReads Tryd.prog W "unicode/utf8.first" firstData := first_eq ▸ Lib.laidMet.reads h (.tail _ (.tail _ (.head _)))
  obtain ⟨r1, r2⟩ := u8_roles (σ := mSt) h3 h4
  intro b r hb
  obtain ⟨l, hl, rfl⟩ := stOf_mem hb
  simp only [mPs, List.mem_cons, List.not_mem_nil, or_false, Prod.mk.injEq] at hl
  rcases hl with ⟨rfl, rfl⟩ | ⟨rfl, rfl⟩ | ⟨rfl, rfl⟩
  · exact r1 mSt_u8.1
  · exact r2 mSt_u8.2
  · exact tens_role (fun _ _ => stOf_fix) h5
theorem calls_m {f : FuncId} {args : List AV} {vs : List Value} {w : World} (h : ACalls Tryd.prog f args mSt fun r σ' => r = .bool true ∧ σ' = mSt) (hs : Sim mSt w) (hr : Reps mSt w args vs) :
    Calls Tryd.prog f ⟨vs⟩ w fun e w' => e = .returned (.bool true) ∧ Ext w w' := calls_st h hs hr
end Go.Proofs.YtmefepbdognkdaaDoor
