/- The store of the rows of values: utf8's two tables. -/
import Derived.Test.YtkfcfpnkgljdmaaDoorMs
namespace Go.Proofs.YtkfcfpnkgljdmaaDoor
open Go Go.ChangeShapes Go.WideShapes Go.ChangeAt Go.RowKit Go.A Go.Lib Go.Shelf
set_option maxRecDepth 100000
set_option linter.unusedVariables false

def laidV : List (String × DataW Unit) := [("math/bits.deBruijn32tab", Rows.laid_math_bits_deBruijn32tab), ("math/bits.deBruijn64tab", Rows.laid_math_bits_deBruijn64tab), ("internal/strconv.uint64pow10", Rows.laid_internal_strconv_uint64pow10), ("unicode/utf8.acceptRanges", Rows.laid_unicode_utf8_acceptRanges), ("unicode/utf8.first", Rows.laid_unicode_utf8_first)]
def vPs : List (Nat × List AV) := [(2, firstTab.map (AV.int .u8)), (3, accTab.map (AV.int .u8)), (0, Lib.pow10Tab.map (AV.int .u64))]
def vSt : ASt := stOf vPs
theorem vSt_u8 : U8 vSt := ⟨by simp [vSt, vPs, stOf], by simp [vSt, vPs, stOf]⟩
theorem vSt_tab : Tab vSt := by simp [Tab, vSt, vPs, stOf]
theorem v_sim {W : World} (h : laidMetH Tryd.prog laidV W) : Sim vSt W := by
  rw [MakeChecks.laidMetH_plain _ _ _ (by kernel_rfl)] at h
  have hp : VarReads Tryd.prog W "internal/strconv.uint64pow10" (Lib.tabData .u64 Lib.pow10Tab) := Lib.laidMet.reads h (.tail _ (.tail _ (.head _)))
  have h4 : VarReads Tryd.prog W "unicode/utf8.acceptRanges" acceptData := acc_eq ▸ Lib.laidMet.reads h (.tail _ (.tail _ (.tail _ (.head _))))
  have h3 : VarReads Tryd.prog W "unicode/utf8.first" firstData := first_eq ▸ Lib.laidMet.reads h (.tail _ (.tail _ (.tail _ (.tail _ (.head _)))))
  obtain ⟨r1, r2⟩ := u8_roles (σ := vSt) h3 h4
  intro b r hb
  obtain ⟨l, hl, rfl⟩ := stOf_mem hb
  simp only [vPs, List.mem_cons, List.not_mem_nil, or_false, Prod.mk.injEq] at hl
  rcases hl with ⟨rfl, rfl⟩ | ⟨rfl, rfl⟩ | ⟨rfl, rfl⟩
  · exact r1 vSt_u8.1
  · exact r2 vSt_u8.2
  · exact pow_role (fun _ _ => stOf_fix) hp
theorem calls_v {f : FuncId} {args : List AV} {vs : List Value} {w : World} (h : ACalls Tryd.prog f args vSt fun r σ' => r = .bool true ∧ σ' = vSt) (hs : Sim vSt w) (hr : Reps vSt w args vs) :
    Calls Tryd.prog f ⟨vs⟩ w fun e w' => e = .returned (.bool true) ∧ Ext w w' := calls_st h hs hr
end Go.Proofs.YtkfcfpnkgljdmaaDoor
