/- Part 7 of what TextsCodes leans on: Ug CodeUh Uh CodeUi Ui CodeJx Jx CodeUj Uj Uk CodeUl Ul Ms Mu. -/
import Derived.Test.YteldgfhpffjdcaaGreatDoorProg
import Derived.KernelRfl
import Derived.Test.YteldgfhpffjdcaaGreatDoorRows
import Derived.ProofKit
import Derived.LaidMore
import Derived.OpenShut
import Derived.Stop.LaidErr
import Derived.MakeChecks
import Derived.SevenTiedAt
import Derived.Lay
import Derived.ChangeArms
import Derived.Lib.LaidU8
import Derived.Lib.LaidTab
import Derived.Test.YteldgfhpffjdcaaGreatDoorZTextsCodesf
set_option linter.defProp false
set_option linter.unusedSimpArgs false
set_option linter.unusedVariables false
set_option maxRecDepth 100000
namespace Go.A
open Go.Proofs Go.Lib
def nLEN : List UInt8 := [76, 69, 78]
def nUPPER : List UInt8 := [85, 80, 80, 69, 82]
def nLOWER : List UInt8 := [76, 79, 87, 69, 82]
def nPROPER : List UInt8 := [80, 82, 79, 80, 69, 82]
def nTRIM : List UInt8 := [84, 82, 73, 77]
def nVALUE : List UInt8 := [86, 65, 76, 85, 69]
def nCHAR : List UInt8 := [67, 72, 65, 82]
def nCODE : List UInt8 := [67, 79, 68, 69]
def nT : List UInt8 := [84]
def nREVERSE : List UInt8 := [82, 69, 86, 69, 82, 83, 69]
def nLEFT : List UInt8 := [76, 69, 70, 84]
def nRIGHT : List UInt8 := [82, 73, 71, 72, 84]
def nFIXED : List UInt8 := [70, 73, 88, 69, 68]
def nREPT : List UInt8 := [82, 69, 80, 84]
def nEXACT : List UInt8 := [69, 88, 65, 67, 84]
def nFIND : List UInt8 := [70, 73, 78, 68]
def nSEARCH : List UInt8 := [83, 69, 65, 82, 67, 72]
def nMID : List UInt8 := [77, 73, 68]
def nSUBSTITUTE : List UInt8 := [83, 85, 66, 83, 84, 73, 84, 85, 84, 69]
def nREPLACE : List UInt8 := [82, 69, 80, 76, 65, 67, 69]
def nCONCAT : List UInt8 := [67, 79, 78, 67, 65, 84]
def limX (s : List UInt8) : Int × Int :=
 if s ∈ [nLEN, nUPPER, nLOWER, nPROPER, nTRIM, nVALUE, nCHAR, nCODE, nT, nREVERSE] then (1, 1)
 else if s ∈ [nLEFT, nRIGHT, nFIXED] then (1, 2)
 else if s ∈ [nREPT, nEXACT] then (2, 2)
 else if s ∈ [nFIND, nSEARCH] then (2, 3)
 else if s = nMID then (3, 3)
 else if s = nSUBSTITUTE then (3, 4)
 else if s = nREPLACE then (4, 4)
 else if s = nCONCAT then (1, 30)
 else (0, 0)
set_option maxHeartbeats 4000000 in
theorem xlimits_ok (s : List UInt8) : Pure Tryz.prog 22 [.str s] (.tuple [.int .i64 (limX s).1, .int .i64 (limX s).2]) := by
 intro σ
 refine a22 (by simp) ?_
 repeat' (first | (simp (disch := first | assumption | omega) only [go_sem, reduceCtorEq, Nat.reduceEqDiff, ↓reduceIte]) | with_reducible refine gC_d (fun h => ?_) (fun h => ?_) | with_reducible refine gC_dn (fun h => ?_) (fun h => ?_) | with_reducible refine condC_d (fun h => ?_) (fun h => ?_) | with_reducible refine condC_n (fun h => ?_) (fun h => ?_) | with_reducible refine condC_b (fun h => ?_) (fun h => ?_) | with_reducible refine boxC_by ?_ fun b hb => ?_)
 all_goals refine retC_by (by repeat' (first | exact Drop.refl _ | with_reducible refine Drop.off ?_ (by assumption))) (.refl _) ⟨?_, rfl⟩
 all_goals simp [limX, nLEN, nUPPER, nLOWER, nPROPER, nTRIM, nVALUE, nCHAR, nCODE, nT, nREVERSE, nLEFT, nRIGHT, nFIXED, nREPT, nEXACT, nFIND, nSEARCH, nMID, nSUBSTITUTE, nREPLACE, nCONCAT, *]
 all_goals rfl
theorem xcall_of {σ : ASt} (hT : Tab σ) (s : List UInt8) (L : List PV) (V : PV) (f : Int) (h0 : (limX s).2 ≠ 0) (h1 : (limX s).1 ≤ L.length) (h2 : (L.length : Int) ≤ (limX s).2)
  (hr : ∀ (b : Nat) (τ : ASt), Tab τ → τ b = rdO L 0 → (∀ x r, σ x = some r → τ x = some r) → ACalls Tryz.prog 23 [.ptr b 0, .str s] τ fun v σ' => v = V.av ∧ σ' = τ.set b (rdO L f)) :
  ACalls Tryz.prog 12 [.str s, .sl .shr (L.map argAV)] σ fun v σ' => v = (if f = 0 then V else .fail f).av ∧ σ' = σ := by
 have hL := xlimits_ok s
 have hl : (L.map argAV).length = L.length := List.length_map _
 generalize (limX s).1 = least at *
 generalize (limX s).2 = most at *
 unfold rdO at hr
 generalize L.map argAV = LA at *
 refine a12 (by simp) ?_
 simp (disch := first | assumption | omega) only [go_sem, reduceCtorEq, ↓reduceIte]
 refine hL.use ?_
 have g1 : ¬ ((LA.length : Int) < least) := by omega
 have g2 : ¬ (most < (LA.length : Int)) := by omega
 have g3 : ¬ ((L.length : Int) < least) := by omega
 have g4 : ¬ (most < (L.length : Int)) := by omega
 simp (disch := first | assumption | omega) only [go_sem, Nat.reduceEqDiff, Nat.reduceAdd, Nat.reduceLeDiff, ↓reduceIte, h0, hl, g3, g4]
 refine boxC_by rfl fun b hb => ?_
 simp (disch := first | assumption | omega) only [go_sem, reduceCtorEq, Nat.reduceEqDiff, ↓reduceIte]
 refine (hr b _ (Tab.set hT hb) (ASt.set_same _ _ _) (fun x r hx => by rw [ASt.set_ne (by rintro rfl; rw [hb] at hx; cases hx)]; exact hx)).mono ?_
 rintro v σ' ⟨rfl, rfl⟩
 by_cases hf : f = 0
 ·rw [if_pos hf]
  simp (disch := first | assumption | omega) only [go_sem, Nat.reduceEqDiff, ↓reduceIte, ASt.set_set, hf]
  exact retC_by (Drop.set hb) (.refl _) ⟨rfl, rfl⟩
 ·rw [if_neg hf]
  simp only [PV.av]
  simp (disch := first | assumption | omega) only [go_sem, Nat.reduceEqDiff, ↓reduceIte, ASt.set_set, hf]
  exact retC_by (Drop.set hb) (.refl _) ⟨rfl, rfl⟩
end Go.A
namespace Go.A
open Go.Proofs
/-! 23: (*tabular/texts.reader).call -/
def c23_0 : ACode := .ops [
 ⟨some 4, none, .q (.mv (.v .nili)), []⟩]
def c23_1 : ACode := .ops [
 ⟨some 18, none, .q (.mv (.t 1)), []⟩]
def c23_2 : ACode := .ops [
 ⟨some 20, none, .q (.bin .eql (.t 18) (.v (.str [67, 72, 65, 82]))), []⟩,
 ⟨some 19, none, .q (.mv (.t 20)), []⟩]
def c23_3 : ACode := .ops [
 ⟨some 21, none, .q (.mv (.t 0)), []⟩,
 ⟨some 22, none, .e (.call 30 [(.t 21), (.v (.int .i64 0)), (.v (.int .i64 0))]), []⟩,
 ⟨some 23, none, .e (.call 29 [(.t 22)]), []⟩,
 ⟨some 4, none, .q (.mv (.t 23)), []⟩]
def c23_4 : ACode := .seq c23_3 .ret
def c23_5 : ACode := .ops [
 ⟨some 25, none, .q (.bin .eql (.t 18) (.v (.str [67, 79, 78, 67, 65, 84]))), []⟩,
 ⟨some 24, none, .q (.mv (.t 25)), []⟩]
def c23_6 : ACode := .ops [
 ⟨some 26, none, .q (.mv (.t 0)), []⟩,
 ⟨some 27, none, .e (.call 31 [(.t 26)]), []⟩,
 ⟨some 4, none, .q (.mv (.t 27)), []⟩]
def c23_7 : ACode := .seq c23_6 .ret
def c23_8 : ACode := .ops [
 ⟨some 29, none, .q (.bin .eql (.t 18) (.v (.str [70, 73, 88, 69, 68]))), []⟩,
 ⟨some 28, none, .q (.mv (.t 29)), []⟩]
def c23_9 : ACode := .ops [
 ⟨some 31, none, .q (.mv (.t 0)), []⟩,
 ⟨some 32, none, .q (.nc (.t 31)), []⟩,
 ⟨some 33, none, .q (.fa 0 (.t 32)), []⟩,
 ⟨some 34, none, .q (.ld none (.t 33)), []⟩,
 ⟨some 35, none, .q (.ia 4 (.t 34) (.v (.int .i64 0))), []⟩,
 ⟨some 36, none, .q (.ld (some 4) (.t 35)), []⟩,
 ⟨some 37, none, .e (.call 33 [(.t 36)]), []⟩,
 ⟨some 38, none, .e (.call 32 [(.t 37)]), []⟩,
 ⟨some 30, none, .q (.mv (.t 38)), []⟩,
 ⟨some 39, none, .q (.ext 0 (.t 30)), []⟩,
 ⟨some 40, none, .q (.ext 1 (.t 30)), []⟩,
 ⟨some 5, none, .q (.mv (.t 39)), []⟩,
 ⟨some 6, none, .q (.mv (.t 40)), []⟩]
def c23_10 : ACode := .ops [
 ⟨some 41, none, .q (.mv (.t 0)), []⟩,
 ⟨some 42, none, .q (.mv (.t 6)), []⟩,
 ⟨some 43, none, .q (.nc (.t 41)), []⟩,
 ⟨some 44, none, .q (.fa 1 (.t 43)), []⟩,
 ⟨none, none, .e (.store 1 (.t 44) (.t 42)), []⟩]
def c23_11 : ACode := .ops [
 ⟨some 45, none, .q (.mv (.t 5)), []⟩,
 ⟨some 46, none, .q (.mv (.t 0)), []⟩,
 ⟨some 47, none, .e (.call 30 [(.t 46), (.v (.int .i64 1)), (.v (.int .i64 2))]), []⟩,
 ⟨some 48, none, .e (.call 34 [(.t 45), (.t 47)]), []⟩,
 ⟨some 4, none, .q (.mv (.t 48)), []⟩]
def c23_12 : ACode := .seq c23_11 .ret
def c23_13 : ACode := .seq c23_10 c23_12
def c23_14 : ACode := .seq c23_9 c23_13
def c23_15 : ACode := .ops [
 ⟨some 50, none, .q (.bin .eql (.t 18) (.v (.str [84]))), []⟩,
 ⟨some 49, none, .q (.mv (.t 50)), []⟩]
def c23_16 : ACode := .ops [
 ⟨some 51, none, .q (.mv (.t 0)), []⟩,
 ⟨some 52, none, .q (.nc (.t 51)), []⟩,
 ⟨some 53, none, .q (.fa 0 (.t 52)), []⟩,
 ⟨some 54, none, .q (.ld none (.t 53)), []⟩,
 ⟨some 55, none, .q (.ia 4 (.t 54) (.v (.int .i64 0))), []⟩,
 ⟨some 56, none, .q (.ld (some 4) (.t 55)), []⟩,
 ⟨some 57, none, .e (.call 33 [(.t 56)]), []⟩,
 ⟨some 7, none, .q (.mv (.t 57)), []⟩]
def c23_17 : ACode := .ops [
 ⟨some 59, none, .q (.mv (.t 7)), []⟩,
 ⟨some 60, none, .e (.call 14 [(.t 59)]), []⟩,
 ⟨some 58, none, .q (.mv (.t 60)), []⟩,
 ⟨some 61, none, .q (.ext 0 (.t 58)), []⟩,
 ⟨some 62, none, .q (.ext 1 (.t 58)), []⟩,
 ⟨some 8, none, .q (.mv (.t 61)), []⟩,
 ⟨some 9, none, .q (.mv (.t 62)), []⟩]
def c23_18 : ACode := .ops [
 ⟨some 63, none, .q (.mv (.t 9)), []⟩,
 ⟨some 64, none, .q (.mv (.t 63)), []⟩,
 ⟨some 65, some (64, false), .q (.mv (.t 7)), []⟩,
 ⟨some 66, some (64, false), .e (.call 35 [(.t 65)]), []⟩,
 ⟨some 67, none, .q (.pick (.t 64) (.v (.bool true)) (.t 66)), []⟩]
def c23_19 : ACode := .ops [
 ⟨some 68, none, .q (.mv (.t 7)), []⟩,
 ⟨some 4, none, .q (.mv (.t 68)), []⟩]
def c23_20 : ACode := .seq c23_19 .ret
def c23_21 : ACode := .cond (.t 67) c23_20 .skip
def c23_22 : ACode := .seq c23_18 c23_21
def c23_23 : ACode := .seq c23_17 c23_22
def c23_24 : ACode := .ops [
 ⟨some 69, none, .q (.mki 30 (.v (.str []))), []⟩,
 ⟨some 4, none, .q (.mv (.t 69)), []⟩]
def c23_25 : ACode := .seq c23_24 .ret
def c23_26 : ACode := .seq c23_23 c23_25
def c23_27 : ACode := .seq c23_16 c23_26
def c23_28 : ACode := .cond (.t 49) c23_27 .skip
def c23_29 : ACode := .seq c23_15 c23_28
def c23_30 : ACode := .cond (.t 28) c23_14 c23_29
def c23_31 : ACode := .seq c23_8 c23_30
def c23_32 : ACode := .cond (.t 24) c23_7 c23_31
def c23_33 : ACode := .seq c23_5 c23_32
def c23_34 : ACode := .cond (.t 19) c23_4 c23_33
def c23_35 : ACode := .seq c23_2 c23_34
def c23_36 : ACode := .block 0 c23_35
def c23_37 : ACode := .seq c23_1 c23_36
def c23_38 : ACode := .ops [
 ⟨some 70, none, .q (.mv (.t 0)), []⟩,
 ⟨some 71, none, .e (.call 36 [(.t 70), (.v (.int .i64 0))]), []⟩,
 ⟨some 10, none, .q (.mv (.t 71)), []⟩]
def c23_39 : ACode := .ops [
 ⟨some 72, none, .q (.mv (.t 1)), []⟩]
def c23_40 : ACode := .ops [
 ⟨some 74, none, .q (.bin .eql (.t 72) (.v (.str [76, 69, 70, 84]))), []⟩,
 ⟨some 73, none, .q (.mv (.t 74)), []⟩]
def c23_41 : ACode := .ops [
 ⟨some 75, none, .q (.bin .eql (.t 72) (.v (.str [82, 73, 71, 72, 84]))), []⟩,
 ⟨some 73, none, .q (.mv (.t 75)), []⟩]
def c23_42 : ACode := .cond (.t 73) .skip c23_41
def c23_43 : ACode := .seq c23_40 c23_42
def c23_44 : ACode := .ops [
 ⟨some 76, none, .q (.mv (.t 1)), []⟩,
 ⟨some 77, none, .q (.mv (.t 10)), []⟩,
 ⟨some 78, none, .q (.mv (.t 0)), []⟩,
 ⟨some 79, none, .e (.call 30 [(.t 78), (.v (.int .i64 1)), (.v (.int .i64 1))]), []⟩,
 ⟨some 80, none, .e (.call 37 [(.t 76), (.t 77), (.t 79)]), []⟩,
 ⟨some 4, none, .q (.mv (.t 80)), []⟩]
def c23_45 : ACode := .seq c23_44 .ret
def c23_46 : ACode := .ops [
 ⟨some 82, none, .q (.bin .eql (.t 72) (.v (.str [77, 73, 68]))), []⟩,
 ⟨some 81, none, .q (.mv (.t 82)), []⟩]
def c23_47 : ACode := .ops [
 ⟨some 83, none, .q (.mv (.t 0)), []⟩,
 ⟨some 84, none, .e (.call 30 [(.t 83), (.v (.int .i64 1)), (.v (.int .i64 1))]), []⟩,
 ⟨some 85, none, .q (.mv (.t 0)), []⟩,
 ⟨some 86, none, .e (.call 30 [(.t 85), (.v (.int .i64 2)), (.v (.int .i64 1))]), []⟩,
 ⟨some 11, none, .q (.mv (.t 84)), []⟩,
 ⟨some 12, none, .q (.mv (.t 86)), []⟩]
def c23_48 : ACode := .ops [
 ⟨some 87, none, .q (.mv (.t 11)), []⟩,
 ⟨some 88, none, .q (.bin .lss (.t 87) (.v (.int .i64 1))), []⟩,
 ⟨some 89, none, .q (.mv (.t 88)), []⟩,
 ⟨some 90, some (89, false), .q (.mv (.t 12)), []⟩,
 ⟨some 91, some (89, false), .q (.bin .lss (.t 90) (.v (.int .i64 0))), []⟩,
 ⟨some 92, none, .q (.pick (.t 89) (.v (.bool true)) (.t 91)), []⟩]
def c23_49 : ACode := .ops [
 ⟨some 93, none, .q (.mki 39 (.v (.int .i64 3))), []⟩,
 ⟨some 4, none, .q (.mv (.t 93)), []⟩]
def c23_50 : ACode := .seq c23_49 .ret
def c23_51 : ACode := .cond (.t 92) c23_50 .skip
def c23_52 : ACode := .seq c23_48 c23_51
def c23_53 : ACode := .ops [
 ⟨some 94, none, .q (.mv (.t 10)), []⟩,
 ⟨some 95, none, .q (.mv (.t 11)), []⟩,
 ⟨some 96, none, .q (.bin .sub (.t 95) (.v (.int .i64 1))), []⟩,
 ⟨some 97, none, .q (.mv (.t 12)), []⟩,
 ⟨some 98, none, .e (.call 38 [(.t 94), (.t 96), (.t 97)]), []⟩,
 ⟨some 99, none, .q (.mki 30 (.t 98)), []⟩,
 ⟨some 4, none, .q (.mv (.t 99)), []⟩]
def c23_54 : ACode := .seq c23_53 .ret
def c23_55 : ACode := .seq c23_52 c23_54
def c23_56 : ACode := .seq c23_47 c23_55
def c23_57 : ACode := .ops [
 ⟨some 101, none, .q (.bin .eql (.t 72) (.v (.str [82, 69, 80, 84]))), []⟩,
 ⟨some 100, none, .q (.mv (.t 101)), []⟩]
def c23_58 : ACode := .ops [
 ⟨some 102, none, .q (.mv (.t 10)), []⟩,
 ⟨some 103, none, .q (.mv (.t 0)), []⟩,
 ⟨some 104, none, .e (.call 30 [(.t 103), (.v (.int .i64 1)), (.v (.int .i64 1))]), []⟩,
 ⟨some 105, none, .e (.call 39 [(.t 102), (.t 104)]), []⟩,
 ⟨some 4, none, .q (.mv (.t 105)), []⟩]
def c23_59 : ACode := .seq c23_58 .ret
def c23_60 : ACode := .ops [
 ⟨some 107, none, .q (.bin .eql (.t 72) (.v (.str [69, 88, 65, 67, 84]))), []⟩,
 ⟨some 106, none, .q (.mv (.t 107)), []⟩]
def c23_61 : ACode := .ops [
 ⟨some 108, none, .q (.mv (.t 10)), []⟩,
 ⟨some 109, none, .q (.mv (.t 0)), []⟩,
 ⟨some 110, none, .e (.call 36 [(.t 109), (.v (.int .i64 1))]), []⟩,
 ⟨some 111, none, .q (.bin .eql (.t 108) (.t 110)), []⟩,
 ⟨some 112, none, .q (.mki 66 (.t 111)), []⟩,
 ⟨some 4, none, .q (.mv (.t 112)), []⟩]
def c23_62 : ACode := .seq c23_61 .ret
def c23_63 : ACode := .ops [
 ⟨some 114, none, .q (.bin .eql (.t 72) (.v (.str [70, 73, 78, 68]))), []⟩,
 ⟨some 113, none, .q (.mv (.t 114)), []⟩]
def c23_64 : ACode := .ops [
 ⟨some 115, none, .q (.mv (.t 10)), []⟩,
 ⟨some 116, none, .q (.mv (.t 0)), []⟩,
 ⟨some 117, none, .e (.call 36 [(.t 116), (.v (.int .i64 1))]), []⟩,
 ⟨some 118, none, .q (.mv (.t 0)), []⟩,
 ⟨some 119, none, .e (.call 30 [(.t 118), (.v (.int .i64 2)), (.v (.int .i64 1))]), []⟩,
 ⟨some 120, none, .e (.call 40 [(.t 115), (.t 117), (.t 119)]), []⟩,
 ⟨some 4, none, .q (.mv (.t 120)), []⟩]
def c23_65 : ACode := .seq c23_64 .ret
def c23_66 : ACode := .ops [
 ⟨some 122, none, .q (.bin .eql (.t 72) (.v (.str [83, 69, 65, 82, 67, 72]))), []⟩,
 ⟨some 121, none, .q (.mv (.t 122)), []⟩]
def c23_67 : ACode := .ops [
 ⟨some 123, none, .q (.mv (.t 10)), []⟩,
 ⟨some 124, none, .e (.call 41 [(.t 123)]), []⟩,
 ⟨some 125, none, .q (.mv (.t 0)), []⟩,
 ⟨some 126, none, .e (.call 36 [(.t 125), (.v (.int .i64 1))]), []⟩,
 ⟨some 127, none, .e (.call 41 [(.t 126)]), []⟩,
 ⟨some 128, none, .q (.mv (.t 0)), []⟩,
 ⟨some 129, none, .e (.call 30 [(.t 128), (.v (.int .i64 2)), (.v (.int .i64 1))]), []⟩,
 ⟨some 130, none, .e (.call 40 [(.t 124), (.t 127), (.t 129)]), []⟩,
 ⟨some 4, none, .q (.mv (.t 130)), []⟩]
def c23_68 : ACode := .seq c23_67 .ret
def c23_69 : ACode := .ops [
 ⟨some 132, none, .q (.bin .eql (.t 72) (.v (.str [83, 85, 66, 83, 84, 73, 84, 85, 84, 69]))), []⟩,
 ⟨some 131, none, .q (.mv (.t 132)), []⟩]
def c23_70 : ACode := .ops [
 ⟨some 133, none, .q (.mv (.t 0)), []⟩,
 ⟨some 134, none, .e (.call 36 [(.t 133), (.v (.int .i64 1))]), []⟩,
 ⟨some 135, none, .q (.mv (.t 0)), []⟩,
 ⟨some 136, none, .e (.call 36 [(.t 135), (.v (.int .i64 2))]), []⟩,
 ⟨some 137, none, .q (.mv (.t 0)), []⟩,
 ⟨some 138, none, .e (.call 30 [(.t 137), (.v (.int .i64 3)), (.v (.int .i64 0))]), []⟩,
 ⟨some 13, none, .q (.mv (.t 134)), []⟩,
 ⟨some 14, none, .q (.mv (.t 136)), []⟩,
 ⟨some 15, none, .q (.mv (.t 138)), []⟩]
def c23_71 : ACode := .ops [
 ⟨some 139, none, .q (.mv (.t 0)), []⟩,
 ⟨some 140, none, .e (.call 42 [(.t 139), (.v (.int .i64 3))]), []⟩,
 ⟨some 141, none, .q (.mv (.t 140)), []⟩,
 ⟨some 142, some (141, true), .q (.mv (.t 15)), []⟩,
 ⟨some 143, some (141, true), .q (.bin .lss (.t 142) (.v (.int .i64 1))), []⟩,
 ⟨some 144, none, .q (.pick (.t 141) (.t 143) (.v (.bool false))), []⟩]
def c23_72 : ACode := .ops [
 ⟨some 145, none, .q (.mki 39 (.v (.int .i64 3))), []⟩,
 ⟨some 4, none, .q (.mv (.t 145)), []⟩]
def c23_73 : ACode := .seq c23_72 .ret
def c23_74 : ACode := .cond (.t 144) c23_73 .skip
def c23_75 : ACode := .seq c23_71 c23_74
def c23_76 : ACode := .ops [
 ⟨some 146, none, .q (.mv (.t 10)), []⟩,
 ⟨some 147, none, .q (.mv (.t 13)), []⟩,
 ⟨some 148, none, .q (.mv (.t 14)), []⟩,
 ⟨some 149, none, .q (.mv (.t 15)), []⟩,
 ⟨some 150, none, .e (.call 43 [(.t 146), (.t 147), (.t 148), (.t 149)]), []⟩,
 ⟨some 4, none, .q (.mv (.t 150)), []⟩]
def c23_77 : ACode := .seq c23_76 .ret
def c23_78 : ACode := .seq c23_75 c23_77
def c23_79 : ACode := .seq c23_70 c23_78
def c23_80 : ACode := .ops [
 ⟨some 152, none, .q (.bin .eql (.t 72) (.v (.str [82, 69, 80, 76, 65, 67, 69]))), []⟩,
 ⟨some 151, none, .q (.mv (.t 152)), []⟩]
def c23_81 : ACode := .ops [
 ⟨some 153, none, .q (.mv (.t 0)), []⟩,
 ⟨some 154, none, .e (.call 30 [(.t 153), (.v (.int .i64 1)), (.v (.int .i64 1))]), []⟩,
 ⟨some 155, none, .q (.mv (.t 0)), []⟩,
 ⟨some 156, none, .e (.call 30 [(.t 155), (.v (.int .i64 2)), (.v (.int .i64 1))]), []⟩,
 ⟨some 16, none, .q (.mv (.t 154)), []⟩,
 ⟨some 17, none, .q (.mv (.t 156)), []⟩]
def c23_82 : ACode := .ops [
 ⟨some 157, none, .q (.mv (.t 10)), []⟩,
 ⟨some 158, none, .q (.mv (.t 16)), []⟩,
 ⟨some 159, none, .q (.mv (.t 17)), []⟩,
 ⟨some 160, none, .q (.mv (.t 0)), []⟩,
 ⟨some 161, none, .e (.call 36 [(.t 160), (.v (.int .i64 3))]), []⟩,
 ⟨some 162, none, .e (.call 44 [(.t 157), (.t 158), (.t 159), (.t 161)]), []⟩,
 ⟨some 4, none, .q (.mv (.t 162)), []⟩]
def c23_83 : ACode := .seq c23_82 .ret
def c23_84 : ACode := .seq c23_81 c23_83
def c23_85 : ACode := .cond (.t 151) c23_84 .skip
def c23_86 : ACode := .seq c23_80 c23_85
def c23_87 : ACode := .cond (.t 131) c23_79 c23_86
def c23_88 : ACode := .seq c23_69 c23_87
def c23_89 : ACode := .cond (.t 121) c23_68 c23_88
def c23_90 : ACode := .seq c23_66 c23_89
def c23_91 : ACode := .cond (.t 113) c23_65 c23_90
def c23_92 : ACode := .seq c23_63 c23_91
def c23_93 : ACode := .cond (.t 106) c23_62 c23_92
def c23_94 : ACode := .seq c23_60 c23_93
def c23_95 : ACode := .cond (.t 100) c23_59 c23_94
def c23_96 : ACode := .seq c23_57 c23_95
def c23_97 : ACode := .cond (.t 81) c23_56 c23_96
def c23_98 : ACode := .seq c23_46 c23_97
def c23_99 : ACode := .cond (.t 73) c23_45 c23_98
def c23_100 : ACode := .seq c23_43 c23_99
def c23_101 : ACode := .block 1 c23_100
def c23_102 : ACode := .seq c23_39 c23_101
def c23_103 : ACode := .ops [
 ⟨some 163, none, .q (.mv (.t 1)), []⟩,
 ⟨some 164, none, .q (.mv (.t 10)), []⟩,
 ⟨some 165, none, .e (.call 45 [(.t 163), (.t 164)]), []⟩,
 ⟨some 4, none, .q (.mv (.t 165)), []⟩]
def c23_104 : ACode := .seq c23_103 .ret
def c23_105 : ACode := .seq c23_102 c23_104
def c23_106 : ACode := .seq c23_38 c23_105
def c23_107 : ACode := .seq c23_37 c23_106
def c23_108 : ACode := .seq c23_0 c23_107
@[go_sem] def c23_0_wp := wp_of c23_0.eq_1
@[go_sem] def c23_1_wp := wp_of c23_1.eq_1
@[go_sem] def c23_2_wp := wp_of c23_2.eq_1
@[go_sem] def c23_3_wp := wp_of c23_3.eq_1
@[go_sem] def c23_4_wp := wp_of c23_4.eq_1
@[go_sem] def c23_5_wp := wp_of c23_5.eq_1
@[go_sem] def c23_8_wp := wp_of c23_8.eq_1
@[go_sem] def c23_15_wp := wp_of c23_15.eq_1
@[go_sem] def c23_28_wp := wp_of c23_28.eq_1
@[go_sem] def c23_29_wp := wp_of c23_29.eq_1
@[go_sem] def c23_30_wp := wp_of c23_30.eq_1
@[go_sem] def c23_31_wp := wp_of c23_31.eq_1
@[go_sem] def c23_32_wp := wp_of c23_32.eq_1
@[go_sem] def c23_33_wp := wp_of c23_33.eq_1
@[go_sem] def c23_34_wp := wp_of c23_34.eq_1
@[go_sem] def c23_35_wp := wp_of c23_35.eq_1
@[go_sem] def c23_36_wp := wp_of c23_36.eq_1
@[go_sem] def c23_37_wp := wp_of c23_37.eq_1
@[go_sem] def c23_38_wp := wp_of c23_38.eq_1
@[go_sem] def c23_39_wp := wp_of c23_39.eq_1
@[go_sem] def c23_40_wp := wp_of c23_40.eq_1
@[go_sem] def c23_41_wp := wp_of c23_41.eq_1
@[go_sem] def c23_42_wp := wp_of c23_42.eq_1
@[go_sem] def c23_43_wp := wp_of c23_43.eq_1
@[go_sem] def c23_44_wp := wp_of c23_44.eq_1
@[go_sem] def c23_45_wp := wp_of c23_45.eq_1
@[go_sem] def c23_46_wp := wp_of c23_46.eq_1
@[go_sem] def c23_57_wp := wp_of c23_57.eq_1
@[go_sem] def c23_60_wp := wp_of c23_60.eq_1
@[go_sem] def c23_63_wp := wp_of c23_63.eq_1
@[go_sem] def c23_66_wp := wp_of c23_66.eq_1
@[go_sem] def c23_69_wp := wp_of c23_69.eq_1
@[go_sem] def c23_80_wp := wp_of c23_80.eq_1
@[go_sem] def c23_85_wp := wp_of c23_85.eq_1
@[go_sem] def c23_86_wp := wp_of c23_86.eq_1
@[go_sem] def c23_87_wp := wp_of c23_87.eq_1
@[go_sem] def c23_88_wp := wp_of c23_88.eq_1
@[go_sem] def c23_89_wp := wp_of c23_89.eq_1
@[go_sem] def c23_90_wp := wp_of c23_90.eq_1
@[go_sem] def c23_91_wp := wp_of c23_91.eq_1
@[go_sem] def c23_92_wp := wp_of c23_92.eq_1
@[go_sem] def c23_93_wp := wp_of c23_93.eq_1
@[go_sem] def c23_94_wp := wp_of c23_94.eq_1
@[go_sem] def c23_95_wp := wp_of c23_95.eq_1
@[go_sem] def c23_96_wp := wp_of c23_96.eq_1
@[go_sem] def c23_97_wp := wp_of c23_97.eq_1
@[go_sem] def c23_98_wp := wp_of c23_98.eq_1
@[go_sem] def c23_99_wp := wp_of c23_99.eq_1
@[go_sem] def c23_100_wp := wp_of c23_100.eq_1
@[go_sem] def c23_101_wp := wp_of c23_101.eq_1
@[go_sem] def c23_102_wp := wp_of c23_102.eq_1
@[go_sem] def c23_103_wp := wp_of c23_103.eq_1
@[go_sem] def c23_104_wp := wp_of c23_104.eq_1
@[go_sem] def c23_105_wp := wp_of c23_105.eq_1
@[go_sem] def c23_106_wp := wp_of c23_106.eq_1
@[go_sem] def c23_107_wp := wp_of c23_107.eq_1
@[go_sem] def c23_108_wp := wp_of c23_108.eq_1
def c23 : AFn := ⟨166, [.t 4], c23_108⟩
theorem c23_ok : compF Tryz.prog Tryz.f23 = some c23 := by kernel_rfl
theorem a23 {args : List AV} {σ : ASt} {R : AV → ASt → Prop} (hl : args.length ≤ 166) (h : c23_108.wp Tryz.prog (RetQ [.t 4] R) (init args) σ) : ACalls Tryz.prog 23 args σ R := acalls_of Tryz.func23 c23_ok hl h
/-! 45: tabular/texts.one -/
def c45_0 : ACode := .ops [
 ⟨some 4, none, .q (.mv (.v .nili)), []⟩]
def c45_1 : ACode := .ops [
 ⟨some 7, none, .q (.mv (.t 0)), []⟩]
def c45_2 : ACode := .ops [
 ⟨some 9, none, .q (.bin .eql (.t 7) (.v (.str [76, 69, 78]))), []⟩,
 ⟨some 8, none, .q (.mv (.t 9)), []⟩]
def c45_3 : ACode := .ops [
 ⟨some 10, none, .q (.mv (.t 1)), []⟩,
 ⟨some 11, none, .e (.call 59 [(.t 10)]), []⟩,
 ⟨some 12, none, .e (.call 20 [(.t 11)]), []⟩,
 ⟨some 13, none, .q (.ext 0 (.t 12)), []⟩,
 ⟨some 14, none, .q (.ext 1 (.t 12)), []⟩,
 ⟨some 15, none, .e (.call 62 [(.t 13), (.t 14)]), []⟩,
 ⟨some 4, none, .q (.mv (.t 15)), []⟩]
def c45_4 : ACode := .seq c45_3 .ret
def c45_5 : ACode := .ops [
 ⟨some 17, none, .q (.bin .eql (.t 7) (.v (.str [85, 80, 80, 69, 82]))), []⟩,
 ⟨some 16, none, .q (.mv (.t 17)), []⟩]
def c45_6 : ACode := .ops [
 ⟨some 18, none, .q (.mv (.t 1)), []⟩,
 ⟨some 19, none, .e (.call 41 [(.t 18)]), []⟩,
 ⟨some 20, none, .q (.mki 30 (.t 19)), []⟩,
 ⟨some 4, none, .q (.mv (.t 20)), []⟩]
def c45_7 : ACode := .seq c45_6 .ret
def c45_8 : ACode := .ops [
 ⟨some 22, none, .q (.bin .eql (.t 7) (.v (.str [76, 79, 87, 69, 82]))), []⟩,
 ⟨some 21, none, .q (.mv (.t 22)), []⟩]
def c45_9 : ACode := .ops [
 ⟨some 23, none, .q (.mv (.t 1)), []⟩,
 ⟨some 24, none, .e (.call 67 [(.t 23)]), []⟩,
 ⟨some 25, none, .q (.mki 30 (.t 24)), []⟩,
 ⟨some 4, none, .q (.mv (.t 25)), []⟩]
def c45_10 : ACode := .seq c45_9 .ret
def c45_11 : ACode := .ops [
 ⟨some 27, none, .q (.bin .eql (.t 7) (.v (.str [80, 82, 79, 80, 69, 82]))), []⟩,
 ⟨some 26, none, .q (.mv (.t 27)), []⟩]
def c45_12 : ACode := .ops [
 ⟨some 28, none, .q (.mv (.t 1)), []⟩,
 ⟨some 29, none, .e (.call 68 [(.t 28)]), []⟩,
 ⟨some 30, none, .q (.mki 30 (.t 29)), []⟩,
 ⟨some 4, none, .q (.mv (.t 30)), []⟩]
def c45_13 : ACode := .seq c45_12 .ret
def c45_14 : ACode := .ops [
 ⟨some 32, none, .q (.bin .eql (.t 7) (.v (.str [84, 82, 73, 77]))), []⟩,
 ⟨some 31, none, .q (.mv (.t 32)), []⟩]
def c45_15 : ACode := .ops [
 ⟨some 33, none, .q (.mv (.t 1)), []⟩,
 ⟨some 34, none, .e (.call 69 [(.t 33)]), []⟩,
 ⟨some 35, none, .q (.mki 30 (.t 34)), []⟩,
 ⟨some 4, none, .q (.mv (.t 35)), []⟩]
def c45_16 : ACode := .seq c45_15 .ret
def c45_17 : ACode := .ops [
 ⟨some 37, none, .q (.bin .eql (.t 7) (.v (.str [67, 79, 68, 69]))), []⟩,
 ⟨some 36, none, .q (.mv (.t 37)), []⟩]
def c45_18 : ACode := .ops [
 ⟨some 38, none, .q (.mv (.t 1)), []⟩,
 ⟨some 39, none, .e (.call 70 [(.t 38)]), []⟩,
 ⟨some 4, none, .q (.mv (.t 39)), []⟩]
def c45_19 : ACode := .seq c45_18 .ret
def c45_20 : ACode := .ops [
 ⟨some 41, none, .q (.bin .eql (.t 7) (.v (.str [82, 69, 86, 69, 82, 83, 69]))), []⟩,
 ⟨some 40, none, .q (.mv (.t 41)), []⟩]
def c45_21 : ACode := .ops [
 ⟨some 42, none, .q (.mv (.t 1)), []⟩,
 ⟨some 43, none, .e (.call 71 [(.t 42)]), []⟩,
 ⟨some 44, none, .q (.mki 30 (.t 43)), []⟩,
 ⟨some 4, none, .q (.mv (.t 44)), []⟩]
def c45_22 : ACode := .seq c45_21 .ret
def c45_23 : ACode := .cond (.t 40) c45_22 .skip
def c45_24 : ACode := .seq c45_20 c45_23
def c45_25 : ACode := .cond (.t 36) c45_19 c45_24
def c45_26 : ACode := .seq c45_17 c45_25
def c45_27 : ACode := .cond (.t 31) c45_16 c45_26
def c45_28 : ACode := .seq c45_14 c45_27
def c45_29 : ACode := .cond (.t 26) c45_13 c45_28
def c45_30 : ACode := .seq c45_11 c45_29
def c45_31 : ACode := .cond (.t 21) c45_10 c45_30
def c45_32 : ACode := .seq c45_8 c45_31
def c45_33 : ACode := .cond (.t 16) c45_7 c45_32
def c45_34 : ACode := .seq c45_5 c45_33
def c45_35 : ACode := .cond (.t 8) c45_4 c45_34
def c45_36 : ACode := .seq c45_2 c45_35
def c45_37 : ACode := .block 0 c45_36
def c45_38 : ACode := .seq c45_1 c45_37
def c45_39 : ACode := .ops [
 ⟨some 46, none, .q (.mv (.t 1)), []⟩,
 ⟨some 47, none, .q (.mki 30 (.t 46)), []⟩,
 ⟨some 48, none, .e (.call 32 [(.t 47)]), []⟩,
 ⟨some 45, none, .q (.mv (.t 48)), []⟩,
 ⟨some 49, none, .q (.ext 0 (.t 45)), []⟩,
 ⟨some 50, none, .q (.ext 1 (.t 45)), []⟩,
 ⟨some 5, none, .q (.mv (.t 49)), []⟩,
 ⟨some 6, none, .q (.mv (.t 50)), []⟩]
def c45_40 : ACode := .ops [
 ⟨some 51, none, .q (.mv (.t 6)), []⟩,
 ⟨some 52, none, .q (.bin .neq (.t 51) (.v (.int .i64 0))), []⟩]
def c45_41 : ACode := .ops [
 ⟨some 53, none, .q (.mv (.t 6)), []⟩,
 ⟨some 54, none, .q (.mki 39 (.t 53)), []⟩,
 ⟨some 4, none, .q (.mv (.t 54)), []⟩]
def c45_42 : ACode := .seq c45_41 .ret
def c45_43 : ACode := .cond (.t 52) c45_42 .skip
def c45_44 : ACode := .seq c45_40 c45_43
def c45_45 : ACode := .ops [
 ⟨some 55, none, .q (.mv (.t 5)), []⟩,
 ⟨some 56, none, .q (.mki 56 (.t 55)), []⟩,
 ⟨some 4, none, .q (.mv (.t 56)), []⟩]
def c45_46 : ACode := .seq c45_45 .ret
def c45_47 : ACode := .seq c45_44 c45_46
def c45_48 : ACode := .seq c45_39 c45_47
def c45_49 : ACode := .seq c45_38 c45_48
def c45_50 : ACode := .seq c45_0 c45_49
@[go_sem] def c45_0_wp := wp_of c45_0.eq_1
@[go_sem] def c45_1_wp := wp_of c45_1.eq_1
@[go_sem] def c45_2_wp := wp_of c45_2.eq_1
@[go_sem] def c45_5_wp := wp_of c45_5.eq_1
@[go_sem] def c45_8_wp := wp_of c45_8.eq_1
@[go_sem] def c45_11_wp := wp_of c45_11.eq_1
@[go_sem] def c45_12_wp := wp_of c45_12.eq_1
@[go_sem] def c45_13_wp := wp_of c45_13.eq_1
@[go_sem] def c45_14_wp := wp_of c45_14.eq_1
@[go_sem] def c45_17_wp := wp_of c45_17.eq_1
@[go_sem] def c45_18_wp := wp_of c45_18.eq_1
@[go_sem] def c45_19_wp := wp_of c45_19.eq_1
@[go_sem] def c45_25_wp := wp_of c45_25.eq_1
@[go_sem] def c45_26_wp := wp_of c45_26.eq_1
@[go_sem] def c45_27_wp := wp_of c45_27.eq_1
@[go_sem] def c45_28_wp := wp_of c45_28.eq_1
@[go_sem] def c45_29_wp := wp_of c45_29.eq_1
@[go_sem] def c45_30_wp := wp_of c45_30.eq_1
@[go_sem] def c45_31_wp := wp_of c45_31.eq_1
@[go_sem] def c45_32_wp := wp_of c45_32.eq_1
@[go_sem] def c45_33_wp := wp_of c45_33.eq_1
@[go_sem] def c45_34_wp := wp_of c45_34.eq_1
@[go_sem] def c45_35_wp := wp_of c45_35.eq_1
@[go_sem] def c45_36_wp := wp_of c45_36.eq_1
@[go_sem] def c45_37_wp := wp_of c45_37.eq_1
@[go_sem] def c45_38_wp := wp_of c45_38.eq_1
@[go_sem] def c45_49_wp := wp_of c45_49.eq_1
@[go_sem] def c45_50_wp := wp_of c45_50.eq_1
def c45 : AFn := ⟨57, [.t 4], c45_50⟩
theorem c45_ok : compF Tryz.prog Tryz.f45 = some c45 := by kernel_rfl
theorem a45 {args : List AV} {σ : ASt} {R : AV → ASt → Prop} (hl : args.length ≤ 57) (h : c45_50.wp Tryz.prog (RetQ [.t 4] R) (init args) σ) : ACalls Tryz.prog 45 args σ R := acalls_of Tryz.func45 c45_ok hl h
end Go.A
namespace Go.A
open Go.Proofs Go.Lib
theorem nes_CODE : ([67, 79, 68, 69] : List UInt8) ≠ [76, 69, 78] ∧ ([67, 79, 68, 69] : List UInt8) ≠ [85, 80, 80, 69, 82] ∧ ([67, 79, 68, 69] : List UInt8) ≠ [76, 79, 87, 69, 82] ∧ ([67, 79, 68, 69] : List UInt8) ≠ [80, 82, 79, 80, 69, 82] ∧ ([67, 79, 68, 69] : List UInt8) ≠ [84, 82, 73, 77] ∧ ([67, 79, 68, 69] : List UInt8) ≠ [86, 65, 76, 85, 69] ∧ ([67, 79, 68, 69] : List UInt8) ≠ [67, 72, 65, 82] ∧ ([67, 79, 68, 69] : List UInt8) ≠ [84] ∧ ([67, 79, 68, 69] : List UInt8) ≠ [82, 69, 86, 69, 82, 83, 69] ∧ ([67, 79, 68, 69] : List UInt8) ≠ [76, 69, 70, 84] ∧ ([67, 79, 68, 69] : List UInt8) ≠ [82, 73, 71, 72, 84] ∧ ([67, 79, 68, 69] : List UInt8) ≠ [70, 73, 88, 69, 68] ∧ ([67, 79, 68, 69] : List UInt8) ≠ [82, 69, 80, 84] ∧ ([67, 79, 68, 69] : List UInt8) ≠ [69, 88, 65, 67, 84] ∧ ([67, 79, 68, 69] : List UInt8) ≠ [70, 73, 78, 68] ∧ ([67, 79, 68, 69] : List UInt8) ≠ [83, 69, 65, 82, 67, 72] ∧ ([67, 79, 68, 69] : List UInt8) ≠ [77, 73, 68] ∧ ([67, 79, 68, 69] : List UInt8) ≠ [83, 85, 66, 83, 84, 73, 84, 85, 84, 69] ∧ ([67, 79, 68, 69] : List UInt8) ≠ [82, 69, 80, 76, 65, 67, 69] ∧ ([67, 79, 68, 69] : List UInt8) ≠ [67, 79, 78, 67, 65, 84] := by decide
theorem nes_PROPER : ([80, 82, 79, 80, 69, 82] : List UInt8) ≠ [76, 69, 78] ∧ ([80, 82, 79, 80, 69, 82] : List UInt8) ≠ [85, 80, 80, 69, 82] ∧ ([80, 82, 79, 80, 69, 82] : List UInt8) ≠ [76, 79, 87, 69, 82] ∧ ([80, 82, 79, 80, 69, 82] : List UInt8) ≠ [84, 82, 73, 77] ∧ ([80, 82, 79, 80, 69, 82] : List UInt8) ≠ [86, 65, 76, 85, 69] ∧ ([80, 82, 79, 80, 69, 82] : List UInt8) ≠ [67, 72, 65, 82] ∧ ([80, 82, 79, 80, 69, 82] : List UInt8) ≠ [67, 79, 68, 69] ∧ ([80, 82, 79, 80, 69, 82] : List UInt8) ≠ [84] ∧ ([80, 82, 79, 80, 69, 82] : List UInt8) ≠ [82, 69, 86, 69, 82, 83, 69] ∧ ([80, 82, 79, 80, 69, 82] : List UInt8) ≠ [76, 69, 70, 84] ∧ ([80, 82, 79, 80, 69, 82] : List UInt8) ≠ [82, 73, 71, 72, 84] ∧ ([80, 82, 79, 80, 69, 82] : List UInt8) ≠ [70, 73, 88, 69, 68] ∧ ([80, 82, 79, 80, 69, 82] : List UInt8) ≠ [82, 69, 80, 84] ∧ ([80, 82, 79, 80, 69, 82] : List UInt8) ≠ [69, 88, 65, 67, 84] ∧ ([80, 82, 79, 80, 69, 82] : List UInt8) ≠ [70, 73, 78, 68] ∧ ([80, 82, 79, 80, 69, 82] : List UInt8) ≠ [83, 69, 65, 82, 67, 72] ∧ ([80, 82, 79, 80, 69, 82] : List UInt8) ≠ [77, 73, 68] ∧ ([80, 82, 79, 80, 69, 82] : List UInt8) ≠ [83, 85, 66, 83, 84, 73, 84, 85, 84, 69] ∧ ([80, 82, 79, 80, 69, 82] : List UInt8) ≠ [82, 69, 80, 76, 65, 67, 69] ∧ ([80, 82, 79, 80, 69, 82] : List UInt8) ≠ [67, 79, 78, 67, 65, 84] := by decide
theorem nes_LEFT : ([76, 69, 70, 84] : List UInt8) ≠ [76, 69, 78] ∧ ([76, 69, 70, 84] : List UInt8) ≠ [85, 80, 80, 69, 82] ∧ ([76, 69, 70, 84] : List UInt8) ≠ [76, 79, 87, 69, 82] ∧ ([76, 69, 70, 84] : List UInt8) ≠ [80, 82, 79, 80, 69, 82] ∧ ([76, 69, 70, 84] : List UInt8) ≠ [84, 82, 73, 77] ∧ ([76, 69, 70, 84] : List UInt8) ≠ [86, 65, 76, 85, 69] ∧ ([76, 69, 70, 84] : List UInt8) ≠ [67, 72, 65, 82] ∧ ([76, 69, 70, 84] : List UInt8) ≠ [67, 79, 68, 69] ∧ ([76, 69, 70, 84] : List UInt8) ≠ [84] ∧ ([76, 69, 70, 84] : List UInt8) ≠ [82, 69, 86, 69, 82, 83, 69] ∧ ([76, 69, 70, 84] : List UInt8) ≠ [82, 73, 71, 72, 84] ∧ ([76, 69, 70, 84] : List UInt8) ≠ [70, 73, 88, 69, 68] ∧ ([76, 69, 70, 84] : List UInt8) ≠ [82, 69, 80, 84] ∧ ([76, 69, 70, 84] : List UInt8) ≠ [69, 88, 65, 67, 84] ∧ ([76, 69, 70, 84] : List UInt8) ≠ [70, 73, 78, 68] ∧ ([76, 69, 70, 84] : List UInt8) ≠ [83, 69, 65, 82, 67, 72] ∧ ([76, 69, 70, 84] : List UInt8) ≠ [77, 73, 68] ∧ ([76, 69, 70, 84] : List UInt8) ≠ [83, 85, 66, 83, 84, 73, 84, 85, 84, 69] ∧ ([76, 69, 70, 84] : List UInt8) ≠ [82, 69, 80, 76, 65, 67, 69] ∧ ([76, 69, 70, 84] : List UInt8) ≠ [67, 79, 78, 67, 65, 84] := by decide
theorem nes_RIGHT : ([82, 73, 71, 72, 84] : List UInt8) ≠ [76, 69, 78] ∧ ([82, 73, 71, 72, 84] : List UInt8) ≠ [85, 80, 80, 69, 82] ∧ ([82, 73, 71, 72, 84] : List UInt8) ≠ [76, 79, 87, 69, 82] ∧ ([82, 73, 71, 72, 84] : List UInt8) ≠ [80, 82, 79, 80, 69, 82] ∧ ([82, 73, 71, 72, 84] : List UInt8) ≠ [84, 82, 73, 77] ∧ ([82, 73, 71, 72, 84] : List UInt8) ≠ [86, 65, 76, 85, 69] ∧ ([82, 73, 71, 72, 84] : List UInt8) ≠ [67, 72, 65, 82] ∧ ([82, 73, 71, 72, 84] : List UInt8) ≠ [67, 79, 68, 69] ∧ ([82, 73, 71, 72, 84] : List UInt8) ≠ [84] ∧ ([82, 73, 71, 72, 84] : List UInt8) ≠ [82, 69, 86, 69, 82, 83, 69] ∧ ([82, 73, 71, 72, 84] : List UInt8) ≠ [76, 69, 70, 84] ∧ ([82, 73, 71, 72, 84] : List UInt8) ≠ [70, 73, 88, 69, 68] ∧ ([82, 73, 71, 72, 84] : List UInt8) ≠ [82, 69, 80, 84] ∧ ([82, 73, 71, 72, 84] : List UInt8) ≠ [69, 88, 65, 67, 84] ∧ ([82, 73, 71, 72, 84] : List UInt8) ≠ [70, 73, 78, 68] ∧ ([82, 73, 71, 72, 84] : List UInt8) ≠ [83, 69, 65, 82, 67, 72] ∧ ([82, 73, 71, 72, 84] : List UInt8) ≠ [77, 73, 68] ∧ ([82, 73, 71, 72, 84] : List UInt8) ≠ [83, 85, 66, 83, 84, 73, 84, 85, 84, 69] ∧ ([82, 73, 71, 72, 84] : List UInt8) ≠ [82, 69, 80, 76, 65, 67, 69] ∧ ([82, 73, 71, 72, 84] : List UInt8) ≠ [67, 79, 78, 67, 65, 84] := by decide
theorem xone_CODE (s : List UInt8) (hs : s.length ≤ 200000) : Pure Tryz.prog 45 [.str nCODE, .str s] (codeV s).av := by
 intro σ
 have h1 := xcode_ok s (by omega)
 generalize (codeV s).av = W at *
 unfold nCODE
 refine a45 (by simp) ?_
 simp (disch := first | assumption | omega) only [go_sem, reduceCtorEq, Nat.reduceEqDiff, ↓reduceIte, nes_CODE]
 refine h1.use ?_
 simp (disch := first | assumption | omega) only [go_sem, ↓reduceIte]
 exact retC_by (.refl _) (.refl _) ⟨rfl, rfl⟩
theorem xone_PROPER (s : List UInt8) (hs : s.length ≤ 200000) : Pure Tryz.prog 45 [.str nPROPER, .str s] (PV.text (propP s)).av := by
 intro σ
 have h1 := xproper_ok s hs
 simp only [PV.av]
 unfold nPROPER
 refine a45 (by simp) ?_
 simp (disch := first | assumption | omega) only [go_sem, reduceCtorEq, Nat.reduceEqDiff, ↓reduceIte, nes_PROPER]
 refine h1.use ?_
 simp (disch := first | assumption | omega) only [go_sem, ↓reduceIte]
 exact retC_by (.refl _) (.refl _) ⟨rfl, rfl⟩
theorem rc_CODE {τ : ASt} {b : Nat} (hT : Tab τ) (s : List UInt8) (hs : s.length ≤ 200000) (hb : τ b = rdO [.text s] 0) :
  ACalls Tryz.prog 23 [.ptr b 0, .str nCODE] τ fun v σ' => v = (codeV s).av ∧ σ' = τ.set b (rdO [.text s] 0) := by
 have h0 := xrtext_ok hT hb 0 rfl (v := .text s) trivial
 have h1 := xone_CODE s hs
 rw [show ((0 : Nat) : Int) = 0 from rfl] at h0
 simp only [asTextP, seen] at h0
 generalize (codeV s).av = W at *
 unfold nCODE at *
 refine a23 (by simp) ?_
 simp (disch := first | assumption | omega) only [go_sem, reduceCtorEq, Nat.reduceEqDiff, ↓reduceIte, nes_CODE]
 refine h0.mono ?_
 rintro v σ' ⟨rfl, rfl⟩
 simp (disch := first | assumption | omega) only [go_sem, Nat.reduceEqDiff, ↓reduceIte, nes_CODE]
 refine h1.use ?_
 simp (disch := first | assumption | omega) only [go_sem, ↓reduceIte]
 exact retC_by (.refl _) (.refl _) ⟨rfl, rfl⟩
theorem rc_PROPER {τ : ASt} {b : Nat} (hT : Tab τ) (s : List UInt8) (hs : s.length ≤ 200000) (hb : τ b = rdO [.text s] 0) :
  ACalls Tryz.prog 23 [.ptr b 0, .str nPROPER] τ fun v σ' => v = (PV.text (propP s)).av ∧ σ' = τ.set b (rdO [.text s] 0) := by
 have h0 := xrtext_ok hT hb 0 rfl (v := .text s) trivial
 have h1 := xone_PROPER s hs
 rw [show ((0 : Nat) : Int) = 0 from rfl] at h0
 simp only [asTextP, seen] at h0
 generalize (PV.text (propP s)).av = W at *
 unfold nPROPER at *
 refine a23 (by simp) ?_
 simp (disch := first | assumption | omega) only [go_sem, reduceCtorEq, Nat.reduceEqDiff, ↓reduceIte, nes_PROPER]
 refine h0.mono ?_
 rintro v σ' ⟨rfl, rfl⟩
 simp (disch := first | assumption | omega) only [go_sem, Nat.reduceEqDiff, ↓reduceIte, nes_PROPER]
 refine h1.use ?_
 simp (disch := first | assumption | omega) only [go_sem, ↓reduceIte]
 exact retC_by (.refl _) (.refl _) ⟨rfl, rfl⟩
theorem rc_CHAR {τ : ASt} {b : Nat} {L : List PV} (hb : τ b = rdO L 0) {v : PV} (hi : L[0]? = some v) (hg : v.good) (hs : v.small) :
  ACalls Tryz.prog 23 [.ptr b 0, .str nCHAR] τ fun r σ' => r = (signV (clampP (asIntV v).1)).av ∧ σ' = τ.set b (rdO L (seen 0 (asIntV v).2)) := by
 have h0 := xrint_ok hb 0 0 hi hg hs
 have h1 := xsign_ok (clampP (asIntV v).1)
 rw [show ((0 : Nat) : Int) = 0 from rfl] at h0
 generalize (signV (clampP (asIntV v).1)).av = W at *
 unfold nCHAR at *
 refine a23 (by simp) ?_
 simp (disch := first | assumption | omega) only [go_sem, reduceCtorEq, Nat.reduceEqDiff, ↓reduceIte]
 refine h0.mono ?_
 rintro r σ' ⟨rfl, rfl⟩
 simp (disch := first | assumption | omega) only [go_sem, ↓reduceIte]
 refine h1.use ?_
 simp (disch := first | assumption | omega) only [go_sem, ↓reduceIte]
 exact retC_by (.refl _) (.refl _) ⟨rfl, rfl⟩
theorem rc_LEFT {τ : ASt} {b : Nat} (hT : Tab τ) (s : List UInt8) (v : PV) (hs : s.length ≤ 200000) (hb : τ b = rdO [.text s, v] 0) (hg : v.good) (hsm : v.small) :
  ACalls Tryz.prog 23 [.ptr b 0, .str nLEFT] τ fun r σ' => r = (sidesP nLEFT s (clampP (asIntV v).1)).av ∧ σ' = τ.set b (rdO [.text s, v] (seen 0 (asIntV v).2)) := by
 have h0 := xrtext_ok hT hb 0 rfl (v := .text s) trivial
 have h1 := xrint_ok (σ := τ.set b (rdO [.text s, v] 0)) (ASt.set_same _ _ _) 1 1 rfl hg hsm
 have hc : clampP (asIntV v).1 ≤ 2000000 := by unfold clampP; omega
 have h2 := xsides_ok nLEFT s (clampP (asIntV v).1) (by omega) (by omega)
 rw [show ((0 : Nat) : Int) = 0 from rfl] at h0
 rw [show ((1 : Nat) : Int) = 1 from rfl] at h1
 simp only [asTextP, seen] at h0
 generalize (sidesP nLEFT s (clampP (asIntV v).1)).av = W at *
 unfold nLEFT at *
 refine a23 (by simp) ?_
 simp (disch := first | assumption | omega) only [go_sem, reduceCtorEq, Nat.reduceEqDiff, ↓reduceIte, nes_LEFT]
 refine h0.mono ?_
 rintro r σ' ⟨rfl, rfl⟩
 simp (disch := first | assumption | omega) only [go_sem, reduceCtorEq, Nat.reduceEqDiff, ↓reduceIte]
 refine h1.mono ?_
 rintro r σ' ⟨rfl, rfl⟩
 simp (disch := first | assumption | omega) only [go_sem, Nat.reduceEqDiff, ↓reduceIte]
 refine h2.use ?_
 simp (disch := first | assumption | omega) only [go_sem, ↓reduceIte]
 exact retC_by (.refl _) (.refl _) ⟨rfl, rfl⟩
theorem rc_RIGHT {τ : ASt} {b : Nat} (hT : Tab τ) (s : List UInt8) (v : PV) (hs : s.length ≤ 200000) (hb : τ b = rdO [.text s, v] 0) (hg : v.good) (hsm : v.small) :
  ACalls Tryz.prog 23 [.ptr b 0, .str nRIGHT] τ fun r σ' => r = (sidesP nRIGHT s (clampP (asIntV v).1)).av ∧ σ' = τ.set b (rdO [.text s, v] (seen 0 (asIntV v).2)) := by
 have h0 := xrtext_ok hT hb 0 rfl (v := .text s) trivial
 have h1 := xrint_ok (σ := τ.set b (rdO [.text s, v] 0)) (ASt.set_same _ _ _) 1 1 rfl hg hsm
 have hc : clampP (asIntV v).1 ≤ 2000000 := by unfold clampP; omega
 have h2 := xsides_ok nRIGHT s (clampP (asIntV v).1) (by omega) (by omega)
 rw [show ((0 : Nat) : Int) = 0 from rfl] at h0
 rw [show ((1 : Nat) : Int) = 1 from rfl] at h1
 simp only [asTextP, seen] at h0
 generalize (sidesP nRIGHT s (clampP (asIntV v).1)).av = W at *
 unfold nRIGHT at *
 refine a23 (by simp) ?_
 simp (disch := first | assumption | omega) only [go_sem, reduceCtorEq, Nat.reduceEqDiff, ↓reduceIte, nes_RIGHT]
 refine h0.mono ?_
 rintro r σ' ⟨rfl, rfl⟩
 simp (disch := first | assumption | omega) only [go_sem, reduceCtorEq, Nat.reduceEqDiff, ↓reduceIte, nes_RIGHT]
 refine h1.mono ?_
 rintro r σ' ⟨rfl, rfl⟩
 simp (disch := first | assumption | omega) only [go_sem, Nat.reduceEqDiff, ↓reduceIte]
 refine h2.use ?_
 simp (disch := first | assumption | omega) only [go_sem, ↓reduceIte]
 exact retC_by (.refl _) (.refl _) ⟨rfl, rfl⟩
end Go.A
namespace Go.A
open Go.Proofs
/-! 9: tabular/tabularlaw17.call -/
def c9_0 : ACode := .ops [
 ⟨some 6, none, .q (.mv (.v (.str []))), []⟩]
def c9_1 : ACode := .ops [
 ⟨some 10, none, .q (.mv (.t 1)), []⟩,
 ⟨some 11, none, .q (.mki 30 (.t 10)), []⟩,
 ⟨some 12, none, .e (.call 13 [(.t 11)]), []⟩,
 ⟨some 13, none, .q (.bsl 4 [(.t 12)]), []⟩,
 ⟨some 7, none, .q (.mv (.t 13)), []⟩]
def c9_2 : ACode := .ops [
 ⟨some 14, none, .q (.mv (.t 2)), []⟩,
 ⟨some 15, none, .q (.len (.t 14)), []⟩,
 ⟨some 16, none, .q (.mv (.v (.int .i64 0))), []⟩]
def c9_3 : ACode := .ops [
 ⟨some 17, none, .q (.bin .lss (.t 16) (.t 15)), []⟩]
def c9_4 : ACode := .cond (.t 17) .skip (.exit 0)
def c9_5 : ACode := .ops [
 ⟨some 18, none, .q (.ia 1 (.t 14) (.t 16)), []⟩,
 ⟨some 19, none, .q (.ld none (.t 18)), []⟩,
 ⟨some 9, none, .q (.mv (.t 19)), []⟩]
def c9_6 : ACode := .ops [
 ⟨some 20, none, .q (.mv (.t 7)), []⟩,
 ⟨some 21, none, .q (.mv (.t 9)), []⟩,
 ⟨some 22, none, .e (.call 13 [(.t 21)]), []⟩,
 ⟨some 23, none, .q (.bsl 4 [(.t 22)]), []⟩,
 ⟨some 24, none, .e (.app 36 4 48 [(.int .i64 0), (.int .i64 0), (.bool false), (.sl .full [])] (.t 20) (.t 23)), []⟩,
 ⟨some 7, none, .q (.mv (.t 24)), []⟩]
def c9_7 : ACode := .seq c9_5 c9_6
def c9_8 : ACode := .block 1 c9_7
def c9_9 : ACode := .ops [
 ⟨some 25, none, .q (.bin .add (.t 16) (.v (.int .i64 1))), []⟩,
 ⟨some 16, none, .q (.mv (.t 25)), []⟩]
def c9_10 : ACode := .seq c9_8 c9_9
def c9_11 : ACode := .seq c9_4 c9_10
def c9_12 : ACode := .seq c9_3 c9_11
def c9_13 : ACode := .loop c9_12
def c9_14 : ACode := .block 0 c9_13
def c9_15 : ACode := .seq c9_2 c9_14
def c9_16 : ACode := .ops [
 ⟨some 26, none, .q (.mv (.t 0)), []⟩,
 ⟨some 27, none, .q (.mv (.t 7)), []⟩,
 ⟨some 28, none, .e (.call 12 [(.t 26), (.t 27)]), []⟩,
 ⟨some 29, none, .e (.call 11 [(.t 28)]), []⟩,
 ⟨some 6, none, .q (.mv (.t 29)), []⟩]
def c9_17 : ACode := .seq c9_16 .ret
def c9_18 : ACode := .seq c9_15 c9_17
def c9_19 : ACode := .seq c9_1 c9_18
def c9_20 : ACode := .seq c9_0 c9_19
@[go_sem] def c9_0_wp := wp_of c9_0.eq_1
@[go_sem] def c9_1_wp := wp_of c9_1.eq_1
@[go_sem] def c9_2_wp := wp_of c9_2.eq_1
@[go_sem] def c9_3_wp := wp_of c9_3.eq_1
@[go_sem] def c9_4_wp := wp_of c9_4.eq_1
@[go_sem] def c9_5_wp := wp_of c9_5.eq_1
@[go_sem] def c9_6_wp := wp_of c9_6.eq_1
@[go_sem] def c9_7_wp := wp_of c9_7.eq_1
@[go_sem] def c9_8_wp := wp_of c9_8.eq_1
@[go_sem] def c9_9_wp := wp_of c9_9.eq_1
@[go_sem] def c9_10_wp := wp_of c9_10.eq_1
@[go_sem] def c9_11_wp := wp_of c9_11.eq_1
@[go_sem] def c9_12_wp := wp_of c9_12.eq_1
@[go_sem] def c9_13_wp := wp_of c9_13.eq_1
@[go_sem] def c9_14_wp := wp_of c9_14.eq_1
@[go_sem] def c9_15_wp := wp_of c9_15.eq_1
@[go_sem] def c9_16_wp := wp_of c9_16.eq_1
@[go_sem] def c9_17_wp := wp_of c9_17.eq_1
@[go_sem] def c9_18_wp := wp_of c9_18.eq_1
@[go_sem] def c9_19_wp := wp_of c9_19.eq_1
@[go_sem] def c9_20_wp := wp_of c9_20.eq_1
def c9 : AFn := ⟨30, [.t 6], c9_20⟩
theorem c9_ok : compF Tryz.prog Tryz.f9 = some c9 := by kernel_rfl
theorem a9 {args : List AV} {σ : ASt} {R : AV → ASt → Prop} (hl : args.length ≤ 30) (h : c9_20.wp Tryz.prog (RetQ [.t 6] R) (init args) σ) : ACalls Tryz.prog 9 args σ R := acalls_of Tryz.func9 c9_ok hl h
end Go.A
namespace Go.A
open Go.Proofs Go.Lib
def Gr (σ0 σ : ASt) (k : SK) (n s : Nat) : Prop := (k = .full ∧ σ = σ0) ∨ ∃ b T, k = .tok b s T ∧ σ0 b = none ∧ σ = σ0.set b (some (.tok (n * s)))
theorem Gr.drop {σ0 σ : ASt} {k : SK} {n s : Nat} (h : Gr σ0 σ k n s) : Drop σ σ0 := by
 rcases h with ⟨_, rfl⟩ | ⟨b, T, _, hb, rfl⟩
 ·exact Drop.refl _
 ·exact Drop.set hb
theorem Gr.at {σ0 σ : ASt} {k : SK} {n s x : Nat} {r : Role} (h : Gr σ0 σ k n s) (hx : σ0 x = some r) : σ x = some r := by
 rcases h with ⟨_, rfl⟩ | ⟨b, T, _, hb, rfl⟩
 ·exact hx
 ·have : x ≠ b := by rintro rfl; rw [hb] at hx; cases hx
  rw [ASt.set_ne this]; exact hx
theorem Gr.app {e : TypeId} {σ0 σ σ' : ASt} {k k' : SK} {n m s : Nat} (h : Gr σ0 σ k n s) (ha : App e σ k s n m k' σ') : Gr σ0 σ' k' (n + m) s := by
 rcases h with ⟨rfl, rfl⟩ | ⟨b, T, rfl, hb, rfl⟩
 ·cases ha with
  | none hm => subst hm; exact .inl ⟨rfl, rfl⟩
  | room b T hb => cases hb
  | grow b hb _ => exact .inr ⟨b, _, rfl, hb, rfl⟩
 ·have hg : Grown σ0 (σ0.set b (some (.tok (n * s)))) (.tok b s T) n s := .inr ⟨b, T, rfl, hb, rfl⟩
  rcases hg.app ha with ⟨h1, h2, h3⟩ | ⟨c, T', h1, h2, h3⟩
  ·exact .inl ⟨h1, h3⟩
  ·exact .inr ⟨c, T', h1, h2, h3⟩
theorem appG_by {e : TypeId} {σ0 σ : ASt} {k k2 : SK} {s bytes : Nat} {z xs ys : List AV} {K : AV → ASt → Prop} (h : Gr σ0 σ k xs.length s) (hx : wellSz s xs = true) (h2 : wellSz s ys = true) (h3 : leaves (ys.flatMap AV.cells) = true) (h4 : (xs.length + ys.length) * bytes ≤ 140737488355328) (h5 : xs.length + ys.length ≤ 4611686018427387904)
  (hK : ∀ k' σ', Gr σ0 σ' k' (xs ++ ys).length s → K (.sl k' (xs ++ ys)) σ') : appC e s bytes z (.sl k xs) (.sl k2 ys) σ K := by
 refine ⟨?_, h2, h3, h4, h5, .inl fun k' σ' ha => hK k' σ' (by rw [List.length_append]; exact h.app ha)⟩
 rcases h with ⟨rfl, rfl⟩ | ⟨b, T, rfl, hb, rfl⟩
 ·exact hx
 ·exact ⟨rfl, ASt.set_same _ _ _⟩
theorem Gr.tab {σ0 σ : ASt} {k : SK} {n s : Nat} (h : Gr σ0 σ k n s) (hT : Tab σ0) : Tab σ := h.at hT
theorem argAV_wl : ∀ (L : List PV), wellSz 4 (L.map argAV) = true
 | [] => rfl
 | x :: xs => by
   rw [List.map_cons, wellSz, argAV_wl xs]
   rfl
theorem pv_get {L : List PV} {i : Nat} {v : PV} (h : L[i]? = some v) : (L.map PV.av)[i]? = some v.av := by rw [List.getElem?_map, h]; rfl
theorem xl_ok {σ : ASt} (hT : Tab σ) (nm s : List UInt8) (L : List PV) (R : PV) (hL : L.length ≤ 100)
  (hcall : ∀ τ, Tab τ → ACalls Tryz.prog 12 [.str nm, .sl .shr ((PV.text s :: L).map argAV)] τ fun v σ' => v = R.av ∧ σ' = τ) (hR : R.good) :
  ACalls Tryz.prog 9 [.str nm, .str s, .sl .shr (L.map PV.av)] σ fun v σ' => v = .str (showP R) ∧ σ' = σ := by
 have h1 := vone_ok (.text s)
 have hone := fun v => vone_ok v
 have hsh := fun (τ : ASt) (hT : Tab τ) => show_ok hT R hR
 simp only [PV.av] at h1
 have hlm : (L.map PV.av).length = L.length := List.length_map _
 refine a9 (by simp) ?_
 obtain ⟨F, hF⟩ : ∃ F, F = ACode.wp Tryz.prog c9_17 := ⟨_, rfl⟩
 simp (disch := first | assumption | omega) only [go_sem, Nat.reduceEqDiff, ↓reduceIte]
 refine h1.use ?_
 simp (disch := first | assumption | omega) only [go_sem, Nat.reduceEqDiff, ↓reduceIte, Bool.true_and, argAV_any, argAV_len, ←hF]
 refine wp_loop_by (fun (i : Nat) a σ' => i ≤ L.length ∧ (a 0 = .str nm ∧ a 14 = .sl .shr (L.map PV.av) ∧ a 15 = .int .i64 L.length ∧ a 16 = .int .i64 i) ∧ ∃ k, a 7 = .sl k ((PV.text s :: L.take i).map argAV) ∧ Gr σ σ' k ((PV.text s :: L.take i).map argAV).length 4)
  (fun i => L.length - i) 0 (Dr.now ⟨Nat.zero_le _, ?_, .full, ?_, .inl ⟨rfl, rfl⟩⟩) ?_
 ·simp [AFr.upd, init]
 ·simp [AFr.upd]
 rintro i a σ1 ⟨hi, hf, k, h7, hg⟩
 by_cases hlt : i < L.length
 ·have hlt' : (i : Int) < L.length := by omega
  have hx : L[i]? = some (L[i]'hlt) := List.getElem?_eq_getElem hlt
  obtain ⟨p, hp⟩ : ∃ p, L[i]'hlt = p := ⟨_, rfl⟩
  rw [hp] at hx
  have hmx := pv_get hx
  have hap : (PV.text s :: L.take i).map argAV ++ [argAV p] = (PV.text s :: L.take (i + 1)).map argAV := by
   obtain ⟨h1, h2⟩ := List.getElem?_eq_some_iff.1 hx
   rw [List.take_succ_eq_append_getElem h1, h2]; simp
  have hwl := argAV_wl (PV.text s :: L.take i)
  have hlen : ((PV.text s :: L.take i).map argAV).length ≤ 200 := by simp; omega
  have ho := hone p
  have hany := PV.av_any p
  have hcl := PV.av_cells p
  generalize (PV.text s :: L.take i).map argAV = A at *
  generalize L.map PV.av = LV at *
  generalize hpa : p.av = x at *
  simp (disch := first | assumption | omega) only [go_sem, Nat.reduceEqDiff, ↓reduceIte, hf, h7, hlt', hmx, hcl]
  refine ho.use ?_
  simp (disch := first | assumption | omega) only [go_sem, Nat.reduceEqDiff, ↓reduceIte, Bool.true_and, argAV_any, argAV_len]
  refine appG_by (bytes := 48) (ys := [argAV p]) hg hwl rfl rfl (by simp only [List.length_cons, List.length_nil]; omega) (by simp only [List.length_cons, List.length_nil]; omega) fun k' σ' hg' => ?_
  rw [hap] at hg' ⊢
  simp (disch := first | assumption | omega) only [go_sem, Nat.reduceEqDiff, ↓reduceIte, hf]
  refine ⟨i + 1, by dsimp only; omega, Dr.now ⟨by omega, ?_, k', ?_, by simpa using hg'⟩⟩
  ·simp [AFr.upd, hf]
  ·simp [AFr.upd]
 ·have hlt' : ¬ (i : Int) < L.length := by omega
  have e : L.take i = L := List.take_of_length_le (by omega)
  rw [e] at h7 hg
  have hc := hcall σ1 (hg.tab hT)
  have hs1 := hsh σ1 (hg.tab hT)
  generalize (PV.text s :: L).map argAV = A at *
  generalize R.av = W at *
  simp (disch := first | assumption | omega) only [go_sem, ↓reduceIte, hf, hlt']
  rw [hF]
  simp (disch := first | assumption | omega) only [go_sem, reduceCtorEq, Nat.reduceEqDiff, ↓reduceIte, hf, h7]
  refine ACalls.shr rfl (hc.mono ?_)
  rintro v σ' ⟨rfl, rfl⟩
  simp (disch := first | assumption | omega) only [go_sem, ↓reduceIte]
  refine hs1.mono ?_
  rintro v σ' ⟨rfl, rfl⟩
  simp (disch := first | assumption | omega) only [go_sem, ↓reduceIte]
  exact retC_by hg.drop (.refl _) ⟨rfl, rfl⟩
end Go.A
namespace Go.A
open Go.Proofs
/-! 19: tabular/tabularlaw16.Args -/
def c19_0 : ACode := .ops [
 ⟨some 2, none, .q (.mv (.v (.sl .full []))), []⟩]
def c19_1 : ACode := .ops [
 ⟨some 6, none, .q (.bsl 4 []), []⟩,
 ⟨some 3, none, .q (.mv (.t 6)), []⟩]
def c19_2 : ACode := .ops [
 ⟨some 7, none, .q (.mv (.t 0)), []⟩,
 ⟨some 8, none, .q (.len (.t 7)), []⟩,
 ⟨some 9, none, .q (.mv (.v (.int .i64 0))), []⟩]
def c19_3 : ACode := .ops [
 ⟨some 10, none, .q (.bin .lss (.t 9) (.t 8)), []⟩]
def c19_4 : ACode := .cond (.t 10) .skip (.exit 0)
def c19_5 : ACode := .ops [
 ⟨some 11, none, .q (.ia 3 (.t 7) (.t 9)), []⟩,
 ⟨some 12, none, .q (.ld (some 3) (.t 11)), []⟩,
 ⟨some 5, none, .e (.alloc [(.int .i64 0), (.int .i64 0), (.str [])]), []⟩,
 ⟨none, none, .e (.store 3 (.t 5) (.t 12)), []⟩]
def c19_6 : ACode := .ops [
 ⟨some 13, none, .q (.fa 2 (.t 5)), []⟩,
 ⟨some 14, none, .q (.ld none (.t 13)), []⟩,
 ⟨some 15, none, .e (.call 6 [(.t 14), (.v (.int .i64 60))]), []⟩,
 ⟨some 16, none, .q (.fa 2 (.t 5)), []⟩,
 ⟨none, none, .e (.store 1 (.t 16) (.t 15)), []⟩]
def c19_7 : ACode := .ops [
 ⟨some 17, none, .q (.mv (.t 3)), []⟩,
 ⟨some 18, none, .q (.ld (some 3) (.t 5)), []⟩,
 ⟨some 19, none, .e (.call 26 [(.t 18)]), []⟩,
 ⟨some 20, none, .e (.call 13 [(.t 19)]), []⟩,
 ⟨some 21, none, .q (.bsl 4 [(.t 20)]), []⟩,
 ⟨some 22, none, .e (.app 36 4 48 [(.int .i64 0), (.int .i64 0), (.bool false), (.sl .full [])] (.t 17) (.t 21)), []⟩,
 ⟨some 3, none, .q (.mv (.t 22)), []⟩]
def c19_8 : ACode := .seq c19_6 c19_7
def c19_9 : ACode := .seq c19_5 c19_8
def c19_10 : ACode := .block 1 c19_9
def c19_11 : ACode := .ops [
 ⟨some 23, none, .q (.bin .add (.t 9) (.v (.int .i64 1))), []⟩,
 ⟨some 9, none, .q (.mv (.t 23)), []⟩]
def c19_12 : ACode := .seq c19_10 c19_11
def c19_13 : ACode := .seq c19_4 c19_12
def c19_14 : ACode := .seq c19_3 c19_13
def c19_15 : ACode := .loop c19_14
def c19_16 : ACode := .block 0 c19_15
def c19_17 : ACode := .seq c19_2 c19_16
def c19_18 : ACode := .ops [
 ⟨some 24, none, .q (.mv (.t 3)), []⟩,
 ⟨some 2, none, .q (.mv (.t 24)), []⟩]
def c19_19 : ACode := .seq c19_18 .ret
def c19_20 : ACode := .seq c19_17 c19_19
def c19_21 : ACode := .seq c19_1 c19_20
def c19_22 : ACode := .seq c19_0 c19_21
@[go_sem] def c19_0_wp := wp_of c19_0.eq_1
@[go_sem] def c19_1_wp := wp_of c19_1.eq_1
@[go_sem] def c19_2_wp := wp_of c19_2.eq_1
@[go_sem] def c19_3_wp := wp_of c19_3.eq_1
@[go_sem] def c19_4_wp := wp_of c19_4.eq_1
@[go_sem] def c19_5_wp := wp_of c19_5.eq_1
@[go_sem] def c19_6_wp := wp_of c19_6.eq_1
@[go_sem] def c19_7_wp := wp_of c19_7.eq_1
@[go_sem] def c19_8_wp := wp_of c19_8.eq_1
@[go_sem] def c19_9_wp := wp_of c19_9.eq_1
@[go_sem] def c19_10_wp := wp_of c19_10.eq_1
@[go_sem] def c19_11_wp := wp_of c19_11.eq_1
@[go_sem] def c19_12_wp := wp_of c19_12.eq_1
@[go_sem] def c19_13_wp := wp_of c19_13.eq_1
@[go_sem] def c19_14_wp := wp_of c19_14.eq_1
@[go_sem] def c19_15_wp := wp_of c19_15.eq_1
@[go_sem] def c19_16_wp := wp_of c19_16.eq_1
@[go_sem] def c19_17_wp := wp_of c19_17.eq_1
@[go_sem] def c19_18_wp := wp_of c19_18.eq_1
@[go_sem] def c19_19_wp := wp_of c19_19.eq_1
@[go_sem] def c19_20_wp := wp_of c19_20.eq_1
@[go_sem] def c19_21_wp := wp_of c19_21.eq_1
@[go_sem] def c19_22_wp := wp_of c19_22.eq_1
def c19 : AFn := ⟨25, [.t 2], c19_22⟩
theorem c19_ok : compF Tryz.prog Tryz.f19 = some c19 := by kernel_rfl
theorem a19 {args : List AV} {σ : ASt} {R : AV → ASt → Prop} (hl : args.length ≤ 25) (h : c19_22.wp Tryz.prog (RetQ [.t 2] R) (init args) σ) : ACalls Tryz.prog 19 args σ R := acalls_of Tryz.func19 c19_ok hl h
end Go.A
namespace Go.A
open Go.Proofs
theorem Grown.u8 {σ0 σ : ASt} {k : SK} {n s : Nat} (h : Grown σ0 σ k n s) (hU : U8 σ0) : U8 σ := ⟨h.at hU.1, h.at hU.2⟩
def argsP (L : List Pl) : List PV := L.map fun p => ofP ⟨p.kind, p.n, p.s.take 60⟩
theorem pl_get {L : List Pl} {i : Nat} {p : Pl} (h : L[i]? = some p) : (L.map plAV)[i]? = some (plAV p) := by rw [List.getElem?_map, h]; rfl
set_option maxHeartbeats 1000000 in
theorem args_ok {σ : ASt} (h : U8 σ) (L : List Pl) (hn : L.length ≤ 100000) : ACalls Tryz.prog 19 [.sl .shr (L.map plAV)] σ fun v σ' => v = .sl .shr ((argsP L).map argAV) ∧ σ' = σ := by
 refine a19 (by simp) ?_
 obtain ⟨F, hF⟩ : ∃ F, F = ACode.wp Tryz.prog c19_19 := ⟨_, rfl⟩
 simp (disch := first | assumption | omega) only [go_sem, reduceCtorEq, ↓reduceIte, ←hF]
 refine wp_loop_by (fun (i : Nat) a σ' => i ≤ L.length ∧ (a 7 = .sl .shr (L.map plAV) ∧ a 8 = .int .i64 L.length ∧ a 9 = .int .i64 i) ∧ ∃ k, a 3 = .sl k ((argsP (L.take i)).map argAV) ∧ Grown σ σ' k ((argsP (L.take i)).map argAV).length 4)
  (fun i => L.length - i) 0 (Dr.now ⟨Nat.zero_le _, ?_, .full, ?_, .inl ⟨rfl, by simp [argsP], rfl⟩⟩) ?_
 ·simp (disch := first | assumption | omega) only [go_sem, Nat.reduceEqDiff, ↓reduceIte]
 ·simp (disch := first | assumption | omega) only [go_sem, Nat.reduceEqDiff, ↓reduceIte, argsP]
 rintro i a σ1 ⟨hi, hf, k, h3, hg⟩
 by_cases hlt : i < L.length
 ·have hlt' : (i : Int) < L.length := by omega
  have hx : L[i]? = some (L[i]'hlt) := List.getElem?_eq_getElem hlt
  obtain ⟨p, hp⟩ : ∃ p, L[i]'hlt = p := ⟨_, rfl⟩
  rw [hp] at hx
  have hmx := pl_get hx
  have hap : (argsP (L.take i)).map argAV ++ [argAV (ofP ⟨p.kind, p.n, p.s.take 60⟩)] = (argsP (L.take (i + 1))).map argAV := by
   obtain ⟨h1, h2⟩ := List.getElem?_eq_some_iff.1 hx
   rw [List.take_succ_eq_append_getElem h1, h2]; simp [argsP]
  have hlen : ((argsP (L.take i)).map argAV).length ≤ 100000 := by simp [argsP]; omega
  obtain ⟨kd, n, s⟩ := p
  dsimp only at hap
  have hC := lcut_ok s 60
  rw [show (((60 : Nat)) : Int) = 60 from rfl] at hC
  have htl : (s.take 60).length ≤ 60 := by rw [List.length_take]; omega
  generalize s.take 60 = t at *
  have hO1 := vone_ok (ofP ⟨kd, n, t⟩)
  have hu1 := hg.u8 h
  unfold plAV at hmx hf
  dsimp only at hmx
  generalize (argsP (L.take i)).map argAV = A at *
  simp (disch := first | assumption | omega) only [go_sem, Nat.reduceEqDiff, Nat.reduceAdd, Nat.reduceLeDiff, ↓reduceIte, hf, hlt', hmx]
  refine allocC_by fun c hc => ?_
  obtain ⟨hga, hc0⟩ := hg.upon hc (q := .obj [.int .i64 kd, .int .i64 n, .str t])
  have hOf := of_ok (hu1.set hc (r := some (.obj [.int .i64 kd, .int .i64 n, .str t]))) ⟨kd, n, t⟩ (show t.length ≤ 4611686018427387904 by omega)
  unfold plAV at hOf
  dsimp only at hOf
  simp (disch := first | assumption | omega) only [go_sem, Nat.reduceEqDiff, Nat.reduceAdd, Nat.reduceLeDiff, ↓reduceIte, Bool.true_and]
  refine hC.use ?_
  simp (disch := first | assumption | omega) only [go_sem, Nat.reduceEqDiff, Nat.reduceAdd, Nat.reduceLeDiff, ↓reduceIte, Bool.true_and, h3, ASt.set_set]
  refine hOf.mono ?_
  rintro v σ' ⟨rfl, rfl⟩
  simp (disch := first | assumption | omega) only [go_sem, ↓reduceIte]
  refine hO1.use ?_
  simp (disch := first | assumption | omega) only [go_sem, Nat.reduceEqDiff, ↓reduceIte, Bool.true_and, argAV_any, argAV_len]
  refine appC_by (bytes := 48) (ys := [argAV (ofP ⟨kd, n, t⟩)]) hga rfl rfl (by simp only [List.length_cons, List.length_nil]; omega) (by simp only [List.length_cons, List.length_nil]; omega) fun k' σ' hg' => ?_
  rw [hap] at hg' ⊢
  obtain ⟨σ2, hd, hg2⟩ := hg'.off hc0
  simp (disch := first | assumption | omega) only [go_sem, Nat.reduceEqDiff, ↓reduceIte, hf]
  refine ⟨i + 1, by dsimp only; omega, Dr.drop hd ⟨by omega, ?_, k', ?_, by simpa using hg2⟩⟩
  ·unfold plAV
   simp (disch := first | assumption | omega) only [go_sem, Nat.reduceEqDiff, ↓reduceIte, hf]
  ·rfl
 ·have hlt' : ¬ (i : Int) < L.length := by omega
  have e : L.take i = L := List.take_of_length_le (by omega)
  rw [e] at h3 hg
  simp (disch := first | assumption | omega) only [go_sem, ↓reduceIte, hf, hlt']
  rw [hF]
  simp (disch := first | assumption | omega) only [go_sem, Nat.reduceEqDiff, ↓reduceIte, h3]
  exact retC_by hg.drop (.sl _ _) ⟨rfl, rfl⟩
end Go.A
namespace Go.A
open Go.Proofs
/-! 8: tabular/tabularlaw17.awake -/
def c8_0 : ACode := .ops [
 ⟨some 0, none, .q (.mv (.v (.bool false))), []⟩]
def c8_1 : ACode := .ops [
 ⟨some 3, none, .q (.build [(.int .i64 0), (.int .i64 0), (.str [])] [(0, 1, (.v (.int .i64 2))), (2, 1, (.v (.str [97, 195, 169, 226, 130, 172])))]), []⟩,
 ⟨some 4, none, .q (.build [(.int .i64 0), (.int .i64 0), (.str [])] [(0, 1, (.v (.int .i64 1))), (1, 1, (.v (.int .i64 20000)))]), []⟩,
 ⟨some 5, none, .q (.bsl 3 [(.t 3), (.t 4)]), []⟩,
 ⟨some 6, none, .e (.call 19 [(.t 5)]), []⟩,
 ⟨some 7, none, .e (.call 12 [(.v (.str [82, 73, 71, 72, 84])), (.t 6)]), []⟩,
 ⟨some 1, none, .q (.mv (.t 7)), []⟩]
def c8_2 : ACode := .ops [
 ⟨some 8, none, .q (.build [(.int .i64 0), (.int .i64 0), (.str [])] [(0, 1, (.v (.int .i64 2))), (2, 1, (.v (.str [97, 98, 45, 99, 68])))]), []⟩,
 ⟨some 9, none, .q (.bsl 3 [(.t 8)]), []⟩,
 ⟨some 10, none, .e (.call 19 [(.t 9)]), []⟩,
 ⟨some 11, none, .e (.call 12 [(.v (.str [80, 82, 79, 80, 69, 82])), (.t 10)]), []⟩,
 ⟨some 2, none, .q (.mv (.t 11)), []⟩]
def c8_3 : ACode := .ops [
 ⟨some 12, none, .q (.mv (.t 1)), []⟩,
 ⟨some 13, none, .e (.call 11 [(.t 12)]), []⟩,
 ⟨some 14, none, .q (.bin .eql (.t 13) (.v (.str [195, 169, 226, 130, 172]))), []⟩,
 ⟨some 15, none, .q (.mv (.t 14)), []⟩,
 ⟨some 16, some (15, true), .q (.mv (.t 2)), []⟩,
 ⟨some 17, some (15, true), .e (.call 11 [(.t 16)]), []⟩,
 ⟨some 18, some (15, true), .q (.bin .eql (.t 17) (.v (.str [65, 98, 45, 67, 100]))), []⟩,
 ⟨some 19, none, .q (.pick (.t 15) (.t 18) (.v (.bool false))), []⟩,
 ⟨some 0, none, .q (.mv (.t 19)), []⟩]
def c8_4 : ACode := .seq c8_3 .ret
def c8_5 : ACode := .seq c8_2 c8_4
def c8_6 : ACode := .seq c8_1 c8_5
def c8_7 : ACode := .seq c8_0 c8_6
@[go_sem] def c8_0_wp := wp_of c8_0.eq_1
@[go_sem] def c8_1_wp := wp_of c8_1.eq_1
@[go_sem] def c8_2_wp := wp_of c8_2.eq_1
@[go_sem] def c8_3_wp := wp_of c8_3.eq_1
@[go_sem] def c8_4_wp := wp_of c8_4.eq_1
@[go_sem] def c8_5_wp := wp_of c8_5.eq_1
@[go_sem] def c8_6_wp := wp_of c8_6.eq_1
@[go_sem] def c8_7_wp := wp_of c8_7.eq_1
def c8 : AFn := ⟨20, [.t 0], c8_7⟩
theorem c8_ok : compF Tryz.prog Tryz.f8 = some c8 := by kernel_rfl
theorem a8 {args : List AV} {σ : ASt} {R : AV → ASt → Prop} (hl : args.length ≤ 20) (h : c8_7.wp Tryz.prog (RetQ [.t 0] R) (init args) σ) : ACalls Tryz.prog 8 args σ R := acalls_of Tryz.func8 c8_ok hl h
end Go.A
namespace Go.A
open Go.Proofs Go.Lib
def plsA : List Pl := [⟨2, 0, [97, 195, 169, 226, 130, 172]⟩, ⟨1, 20000, []⟩]
def plsB : List Pl := [⟨2, 0, [97, 98, 45, 99, 68]⟩]
theorem xaw1 : argsP plsA = [.text [97, 195, 169, 226, 130, 172], .num 20000] := by decide +kernel
theorem xaw2 : argsP plsB = [.text [97, 98, 45, 99, 68]] := by decide +kernel
theorem xaw3 : sidesP nRIGHT [97, 195, 169, 226, 130, 172] (clampP (asIntV (.num 20000)).1) = .text [195, 169, 226, 130, 172] := by decide +kernel
theorem xaw4 : propP [97, 98, 45, 99, 68] = [65, 98, 45, 67, 100] := by decide +kernel
theorem xawake_ok {σ : ASt} (hT : Tab σ) (hU : U8 σ) : ACalls Tryz.prog 8 [] σ fun v σ' => v = .bool true ∧ σ' = σ := by
 have hA := args_ok hU plsA (by decide)
 have hB := args_ok hU plsB (by decide)
 rw [xaw1] at hA
 rw [xaw2] at hB
 have hC := xcall_of hT nRIGHT [.text [97, 195, 169, 226, 130, 172], .num 20000] _ _ (by decide) (by decide) (by decide) (fun b τ hT hb _ => rc_RIGHT hT [97, 195, 169, 226, 130, 172] (.num 20000) (by decide) hb (by show _ ≤ _; decide) trivial)
 have hD := xcall_of hT nPROPER [.text [97, 98, 45, 99, 68]] _ _ (by decide) (by decide) (by decide) (fun b τ hT hb _ => rc_PROPER hT [97, 98, 45, 99, 68] (by decide) hb)
 rw [xaw3] at hC
 rw [xaw4] at hD
 rw [if_pos (by decide)] at hC hD
 have h1 := show_ok hT (.text [195, 169, 226, 130, 172]) trivial
 have h2 := show_ok hT (.text [65, 98, 45, 67, 100]) trivial
 simp only [PV.av, showP, asTextP] at hC hD h1 h2
 generalize hLA : [PV.text [97, 195, 169, 226, 130, 172], .num 20000].map argAV = LA at *
 generalize hLB : [PV.text [97, 98, 45, 99, 68]].map argAV = LB at *
 unfold plsA plsB plAV at *
 simp only [List.map_cons, List.map_nil] at hA hB
 unfold nRIGHT nPROPER at *
 refine a8 (by simp) ?_
 simp (disch := first | assumption | omega) only [go_sem, Nat.reduceEqDiff, Nat.reduceAdd, Nat.reduceLeDiff, ↓reduceIte, Bool.true_and]
 refine ACalls.shr rfl (hA.mono ?_)
 rintro v σ' ⟨rfl, rfl⟩
 simp (disch := first | assumption | omega) only [go_sem, ↓reduceIte]
 refine hC.mono ?_
 rintro v σ' ⟨rfl, rfl⟩
 simp (disch := first | assumption | omega) only [go_sem, Nat.reduceAdd, Nat.reduceLeDiff, ↓reduceIte, Bool.true_and]
 refine ACalls.shr rfl (hB.mono ?_)
 rintro v σ' ⟨rfl, rfl⟩
 simp (disch := first | assumption | omega) only [go_sem, ↓reduceIte]
 refine hD.mono ?_
 rintro v σ' ⟨rfl, rfl⟩
 simp (disch := first | assumption | omega) only [go_sem, Nat.reduceEqDiff, ↓reduceIte]
 refine h1.mono ?_
 rintro v σ' ⟨rfl, rfl⟩
 simp (disch := first | assumption | omega) only [go_sem, Nat.reduceEqDiff, ↓reduceIte, eq_self]
 refine h2.mono ?_
 rintro v σ' ⟨rfl, rfl⟩
 simp (disch := first | assumption | omega) only [go_sem, Nat.reduceEqDiff, ↓reduceIte, eq_self]
 exact retC_by (.refl _) (.refl _) ⟨rfl, rfl⟩
end Go.A
namespace Go.A
open Go.Proofs Go.Lib
theorem whole_sgT (s : List UInt8) : Whole s → sgT s = some (pcs s).length := by
 refine pcs_ind (Q := fun s => Whole s → sgT s = some (pcs s).length) ?_ ?_ s
 ·intro _; rfl
 ·intro r hr ih h
  obtain ⟨h1, h2⟩ := (whole_step hr).1 h
  rw [sgT_step hr h1, ih h2, pcs_step hr]
  rfl
theorem encU_cases {c : Nat} (hv : c < 55296 ∨ (57343 < c ∧ c ≤ 1114111)) :
  (c < 128 ∧ encU c = [UInt8.ofNat c]) ∨ (128 ≤ c ∧ c < 2048 ∧ encU c = [UInt8.ofNat (192 + c / 64), UInt8.ofNat (128 + c % 64)]) ∨
  (2048 ≤ c ∧ c < 65536 ∧ encU c = [UInt8.ofNat (224 + c / 4096), UInt8.ofNat (128 + c / 64 % 64), UInt8.ofNat (128 + c % 64)]) ∨
  (65536 ≤ c ∧ c ≤ 1114111 ∧ encU c = [UInt8.ofNat (240 + c / 262144), UInt8.ofNat (128 + c / 4096 % 64), UInt8.ofNat (128 + c / 64 % 64), UInt8.ofNat (128 + c % 64)]) := by
 have hval : Utf8.valid (c : Int) = true := by
  unfold Utf8.valid
  simp only [Bool.or_eq_true, Bool.and_eq_true, decide_eq_true_eq]
  omega
 unfold encU Utf8.encode
 rw [if_pos hval]
 simp only [Int.toNat_natCast]
 by_cases h1 : c < 128
 ·rw [if_pos h1]; exact .inl ⟨h1, rfl⟩
 rw [if_neg h1]
 by_cases h2 : c < 2048
 ·rw [if_pos h2]; exact .inr (.inl ⟨by omega, h2, rfl⟩)
 rw [if_neg h2]
 by_cases h3 : c < 65536
 ·rw [if_pos h3]; exact .inr (.inr (.inl ⟨by omega, h3, rfl⟩))
 rw [if_neg h3]
 exact .inr (.inr (.inr ⟨by omega, by omega, rfl⟩))
theorem dec_enc {c : Nat} (hv : c < 55296 ∨ (57343 < c ∧ c ≤ 1114111)) (t : List UInt8) : decodeL (encU c ++ t) = (c, (encU c).length) := by
 have u : ∀ k, k < 256 → (UInt8.ofNat k).toNat = k := fun k hk => by have := u8_nat hk; omega
 rw [decodeL_N]
 rcases encU_cases hv with ⟨h1, e⟩ | ⟨h1, h2, e⟩ | ⟨h1, h2, e⟩ | ⟨h1, h2, e⟩
 ·rw [e]
  simp only [List.cons_append, List.nil_append, List.length_cons, List.length_nil, List.getD_cons_zero]
  rw [u _ (by omega)]
  unfold decodeN
  rw [if_pos h1]
 ·rw [e]
  simp only [List.cons_append, List.nil_append, List.length_cons, List.length_nil, List.getD_cons_zero, List.getD_cons_succ]
  rw [u _ (by omega), u _ (by omega)]
  unfold decodeN
  rw [if_neg (by omega), if_pos (by omega), if_pos (by omega)]
  rw [Prod.mk.injEq]; omega
 ·rw [e]
  simp only [List.cons_append, List.nil_append, List.length_cons, List.length_nil, List.getD_cons_zero, List.getD_cons_succ]
  rw [u _ (by omega), u _ (by omega), u _ (by omega)]
  unfold decodeN
  have q : (224 + c / 4096) % 16 * 4096 + (128 + c / 64 % 64) % 64 * 64 + (128 + c % 64) % 64 = c := by omega
  rw [if_neg (by omega), if_neg (by omega), if_pos (by omega), q, if_pos (by omega)]
 ·rw [e]
  simp only [List.cons_append, List.nil_append, List.length_cons, List.length_nil, List.getD_cons_zero, List.getD_cons_succ]
  rw [u _ (by omega), u _ (by omega), u _ (by omega), u _ (by omega)]
  unfold decodeN
  have q : (240 + c / 262144) % 8 * 262144 + (128 + c / 4096 % 64) % 64 * 4096 + (128 + c / 64 % 64) % 64 * 64 + (128 + c % 64) % 64 = c := by omega
  rw [if_neg (by omega), if_neg (by omega), if_neg (by omega), if_pos (by omega), q, if_pos (by omega)]
theorem enc_vp {c : Nat} (hv : c < 55296 ∨ (57343 < c ∧ c ≤ 1114111)) : VP (encU c) := by
 have hd := dec_enc hv []
 rw [List.append_nil] at hd
 have hl := encU_len c
 refine ⟨fun e => by rw [e] at hl; simp at hl, ?_, by rw [hd]⟩
 rw [hd]
 intro e
 injection e with e1 e2
 rcases encU_cases hv with ⟨h1, e⟩ | ⟨h1, h2, e⟩ | ⟨h1, h2, e⟩ | ⟨h1, h2, e⟩
 ·omega
 ·omega
 ·rw [e] at e2; simp at e2
 ·omega
theorem enc_one {c : Nat} (hv : c < 55296 ∨ (57343 < c ∧ c ≤ 1114111)) : sgT (encU c) = some 1 := by
 have hp := enc_vp hv
 have e := pcs_of (P := [encU c]) (fun p hp' => by rw [List.mem_singleton.1 hp']; exact hp)
 have e2 : [encU c].flatten = encU c := by simp
 rw [e2] at e
 rw [whole_sgT _ (fun p hp' => by rw [e] at hp'; rw [List.mem_singleton.1 hp']; exact hp), e]
 rfl
def numP (n : Int) : PV := .num ((intP n).getD 0)
theorem numP_good (n : Int) : (numP n).good := by
 unfold numP intP
 show Int.natAbs _ ≤ _
 split
 ·simp only [Option.getD_some]; omega
 ·decide
theorem asInt_numP (n : Int) : asIntV (numP n) = (if n.natAbs ≤ 99999999999999 then n else 0, 0) := by
 unfold asIntV numP intP
 split
 ·simp only [Option.getD_some, asNum]
  rw [Int.mul_tdiv_cancel _ (by decide)]
 ·rfl
def noSign (n : Int) : Prop := n < 1 ∨ 1114111 < n ∨ (55296 ≤ n ∧ n ≤ 57343)
instance (n : Int) : Decidable (noSign n) := by unfold noSign; infer_instance
theorem sign_law (n : Int) : signV (clampP (asIntV (numP n)).1) = if noSign n then .fail 3 else .text (encU n) := by
 have hv : ∀ m : Int, 1 ≤ m → m ≤ 1114111 → (validRune m = false ↔ (55296 ≤ m ∧ m ≤ 57343)) := by
  intro m h1 h2
  unfold validRune
  rw [decide_eq_false_iff_not]
  omega
 rw [asInt_numP]
 unfold signV
 by_cases h : noSign n
 ·rw [if_pos h, if_pos]
  by_cases hn : n.natAbs ≤ 99999999999999
  ·rw [if_pos hn]
   unfold clampP
   rcases h with h | h | h
   ·left; dsimp only; omega
   ·right; left; dsimp only; omega
   ·right; right
    have e : max (min n 2000000) (-2000000) = n := by omega
    dsimp only
    rw [e]
    exact (hv n (by omega) (by omega)).2 h
  ·rw [if_neg hn]; left; decide
 ·rw [if_neg h]
  unfold noSign at h
  have e : clampP n = n := by unfold clampP; omega
  have hc : (if n.natAbs ≤ 99999999999999 then n else (0 : Int)) = n := if_pos (by omega)
  rw [hc]
  dsimp only
  rw [e, if_neg]
  ·rfl
  ·rintro (h1 | h1 | h1)
   ·omega
   ·omega
   ·rw [hv n (by omega) (by omega)] at h1; omega
theorem code_law {c : Nat} (h : ¬ noSign c) : codeV (encU c ++ [120]) = numP c := by
 unfold noSign at h
 unfold codeV
 rw [if_neg (by simp), dec_enc (by omega)]
 unfold numP intP
 dsimp only
 rw [if_pos (by omega)]
 rfl
end Go.A
namespace Go.A
open Go.Proofs
/-! 4: tabular/tabularlaw17.TextsCodes -/
def c4_0 : ACode := .ops [
 ⟨some 2, none, .q (.mv (.v (.bool false))), []⟩]
def c4_1 : ACode := .ops [
 ⟨some 10, none, .q (.mv (.t 0)), []⟩,
 ⟨some 11, none, .e (.call 10 [(.t 10)]), []⟩,
 ⟨some 12, none, .e (.call 13 [(.t 11)]), []⟩,
 ⟨some 13, none, .q (.bsl 4 [(.t 12)]), []⟩,
 ⟨some 14, none, .e (.call 12 [(.v (.str [67, 72, 65, 82])), (.t 13)]), []⟩,
 ⟨some 3, none, .q (.mv (.t 14)), []⟩]
def c4_2 : ACode := .ops [
 ⟨some 16, none, .q (.mv (.t 3)), []⟩,
 ⟨some 17, none, .e (.call 14 [(.t 16)]), []⟩,
 ⟨some 15, none, .q (.mv (.t 17)), []⟩,
 ⟨some 18, none, .q (.ext 0 (.t 15)), []⟩,
 ⟨some 19, none, .q (.ext 1 (.t 15)), []⟩,
 ⟨some 4, none, .q (.mv (.t 18)), []⟩,
 ⟨some 5, none, .q (.mv (.t 19)), []⟩]
def c4_3 : ACode := .ops [
 ⟨some 20, none, .q (.mv (.t 5)), []⟩]
def c4_4 : ACode := .ops [
 ⟨some 21, none, .e (.call 8 []), []⟩,
 ⟨some 22, none, .q (.mv (.t 21)), []⟩,
 ⟨some 23, some (22, true), .q (.mv (.t 0)), []⟩,
 ⟨some 24, some (22, true), .q (.bin .lss (.t 23) (.v (.int .i64 1))), []⟩,
 ⟨some 25, some (22, true), .q (.mv (.t 24)), []⟩,
 ⟨some 26, some (25, false), .q (.mv (.t 0)), []⟩,
 ⟨some 27, some (25, false), .q (.bin .gtr (.t 26) (.v (.int .i64 1114111))), []⟩,
 ⟨some 28, some (22, true), .q (.pick (.t 25) (.v (.bool true)) (.t 27)), []⟩,
 ⟨some 29, some (22, true), .q (.mv (.t 28)), []⟩,
 ⟨some 30, some (29, false), .q (.mv (.t 0)), []⟩,
 ⟨some 31, some (29, false), .q (.bin .geq (.t 30) (.v (.int .i64 55296))), []⟩,
 ⟨some 32, some (29, false), .q (.mv (.t 31)), []⟩,
 ⟨some 33, some (32, true), .q (.mv (.t 0)), []⟩,
 ⟨some 34, some (32, true), .q (.bin .leq (.t 33) (.v (.int .i64 57343))), []⟩,
 ⟨some 35, some (29, false), .q (.pick (.t 32) (.t 34) (.v (.bool false))), []⟩,
 ⟨some 36, some (22, true), .q (.pick (.t 29) (.v (.bool true)) (.t 35)), []⟩,
 ⟨some 37, none, .q (.pick (.t 22) (.t 36) (.v (.bool false))), []⟩,
 ⟨some 2, none, .q (.mv (.t 37)), []⟩]
def c4_5 : ACode := .seq c4_4 .ret
def c4_6 : ACode := .cond (.t 20) c4_5 .skip
def c4_7 : ACode := .seq c4_3 c4_6
def c4_8 : ACode := .seq c4_2 c4_7
def c4_9 : ACode := .ops [
 ⟨some 39, none, .q (.mv (.t 3)), []⟩,
 ⟨some 40, none, .e (.call 15 [(.t 39)]), []⟩,
 ⟨some 38, none, .q (.mv (.t 40)), []⟩,
 ⟨some 41, none, .q (.ext 0 (.t 38)), []⟩,
 ⟨some 42, none, .q (.ext 1 (.t 38)), []⟩,
 ⟨some 6, none, .q (.mv (.t 41)), []⟩,
 ⟨some 7, none, .q (.mv (.t 42)), []⟩]
def c4_10 : ACode := .ops [
 ⟨some 44, none, .q (.mv (.t 6)), []⟩,
 ⟨some 45, none, .e (.call 7 [(.t 44)]), []⟩,
 ⟨some 43, none, .q (.mv (.t 45)), []⟩,
 ⟨some 46, none, .q (.ext 0 (.t 43)), []⟩,
 ⟨some 47, none, .q (.ext 1 (.t 43)), []⟩,
 ⟨some 8, none, .q (.mv (.t 46)), []⟩,
 ⟨some 9, none, .q (.mv (.t 47)), []⟩]
def c4_11 : ACode := .ops [
 ⟨some 48, none, .e (.call 8 []), []⟩,
 ⟨some 49, none, .q (.mv (.t 48)), []⟩,
 ⟨some 50, some (49, true), .q (.mv (.t 9)), []⟩,
 ⟨some 51, none, .q (.pick (.t 49) (.t 50) (.v (.bool false))), []⟩,
 ⟨some 52, none, .q (.mv (.t 51)), []⟩,
 ⟨some 53, some (52, true), .q (.mv (.t 8)), []⟩,
 ⟨some 54, some (52, true), .q (.bin .eql (.t 53) (.v (.int .i64 1))), []⟩,
 ⟨some 55, none, .q (.pick (.t 52) (.t 54) (.v (.bool false))), []⟩,
 ⟨some 56, none, .q (.mv (.t 55)), []⟩,
 ⟨some 57, some (56, true), .q (.mv (.t 6)), []⟩,
 ⟨some 58, some (56, true), .q (.bin .add (.t 57) (.v (.str [120]))), []⟩,
 ⟨some 59, some (56, true), .e (.call 9 [(.v (.str [67, 79, 68, 69])), (.t 58), (.v (.sl .full []))]), []⟩,
 ⟨some 60, some (56, true), .q (.mv (.t 0)), []⟩,
 ⟨some 61, some (56, true), .e (.call 10 [(.t 60)]), []⟩,
 ⟨some 62, some (56, true), .e (.call 11 [(.t 61)]), []⟩,
 ⟨some 63, some (56, true), .q (.bin .eql (.t 59) (.t 62)), []⟩,
 ⟨some 64, none, .q (.pick (.t 56) (.t 63) (.v (.bool false))), []⟩,
 ⟨some 2, none, .q (.mv (.t 64)), []⟩]
def c4_12 : ACode := .seq c4_11 .ret
def c4_13 : ACode := .seq c4_10 c4_12
def c4_14 : ACode := .seq c4_9 c4_13
def c4_15 : ACode := .seq c4_8 c4_14
def c4_16 : ACode := .seq c4_1 c4_15
def c4_17 : ACode := .seq c4_0 c4_16
@[go_sem] def c4_0_wp := wp_of c4_0.eq_1
@[go_sem] def c4_1_wp := wp_of c4_1.eq_1
@[go_sem] def c4_2_wp := wp_of c4_2.eq_1
@[go_sem] def c4_3_wp := wp_of c4_3.eq_1
@[go_sem] def c4_4_wp := wp_of c4_4.eq_1
@[go_sem] def c4_5_wp := wp_of c4_5.eq_1
@[go_sem] def c4_6_wp := wp_of c4_6.eq_1
@[go_sem] def c4_7_wp := wp_of c4_7.eq_1
@[go_sem] def c4_8_wp := wp_of c4_8.eq_1
@[go_sem] def c4_9_wp := wp_of c4_9.eq_1
@[go_sem] def c4_10_wp := wp_of c4_10.eq_1
@[go_sem] def c4_11_wp := wp_of c4_11.eq_1
@[go_sem] def c4_12_wp := wp_of c4_12.eq_1
@[go_sem] def c4_13_wp := wp_of c4_13.eq_1
@[go_sem] def c4_14_wp := wp_of c4_14.eq_1
@[go_sem] def c4_15_wp := wp_of c4_15.eq_1
@[go_sem] def c4_16_wp := wp_of c4_16.eq_1
@[go_sem] def c4_17_wp := wp_of c4_17.eq_1
def c4 : AFn := ⟨65, [.t 2], c4_17⟩
theorem c4_ok : compF Tryz.prog Tryz.f4 = some c4 := by kernel_rfl
theorem a4 {args : List AV} {σ : ASt} {R : AV → ASt → Prop} (hl : args.length ≤ 65) (h : c4_17.wp Tryz.prog (RetQ [.t 2] R) (init args) σ) : ACalls Tryz.prog 4 args σ R := acalls_of Tryz.func4 c4_ok hl h
end Go.A
namespace Go.A
open Go.Proofs Go.Lib
theorem seen_num (n : Int) : seen 0 (asIntV (numP n)).2 = 0 := by rw [asInt_numP]; rfl
theorem num_call (n : Int) (h0 : -9223372036854775808 ≤ n) (h1 : n ≤ 9223372036854775807) : Pure Tryz.prog 10 [.int .i64 n] (numP n).av := xnum_ok n h0 h1
theorem one_call (v : PV) : Pure Tryz.prog 13 [v.av] (argAV v) := vone_ok v
theorem tc_CHAR {σ : ASt} (hT : Tab σ) (n : Int) : ACalls Tryz.prog 12 [.str nCHAR, .sl .shr [argAV (numP n)]] σ fun v σ' => v = (if noSign n then PV.fail 3 else .text (encU n)).av ∧ σ' = σ := by
 have h := xcall_of hT nCHAR [numP n] _ _ (by decide) (by show (limX nCHAR).1 ≤ 1; decide) (by show 1 ≤ (limX nCHAR).2; decide) (fun b τ hT hb _ => rc_CHAR hb (v := numP n) rfl (numP_good n) trivial)
 rw [seen_num, if_pos rfl, sign_law] at h
 exact h
section
variable {σ : ASt} (hT : Tab σ) (s : List UInt8) (hs : s.length ≤ 200000)
include hT hs
theorem lc_CODE {r : PV} (hr : codeV s = r) (hg : r.good) : ACalls Tryz.prog 9 [.str nCODE, .str s, .sl .shr []] σ fun v σ' => v = .str (showP r) ∧ σ' = σ := by
 refine xl_ok hT nCODE s [] r (by decide) (fun τ hT => ?_) hg
 have h := xcall_of hT nCODE [.text s] _ _ (by decide) (by show (limX nCODE).1 ≤ 1; decide) (by show 1 ≤ (limX nCODE).2; decide) (fun b τ hT hb _ => rc_CODE hT s hs hb)
 rw [if_pos rfl, hr] at h
 exact h
end
theorem TextsCodes_any {σ : ASt} (hT : Tab σ) (hU : U8 σ) (n : Int) (h0 : -9223372036854775808 ≤ n) (h1 : n ≤ 9223372036854775807) :
  ACalls Tryz.prog 4 [.int .i64 n] σ fun v σ' => v = .bool true ∧ σ' = σ := by
 have hA := xawake_ok hT hU
 have hn := num_call n h0 h1
 have ho := one_call (numP n)
 have hC := tc_CHAR hT n
 have hl : (argAV (numP n)).cells.length = 4 := rfl
 unfold nCHAR at hC
 by_cases hns : noSign n
 ·rw [if_pos hns] at hC
  have hF := failed_ok (.fail 3)
  have hca := PV.av_cells (numP n)
  have han := PV.av_any (numP n)
  generalize (numP n).av = NV at *
  generalize hAR : argAV (numP n) = AR at *
  have hany : AR.isAny = false := by rw [← hAR]; rfl
  simp only [PV.av, failedP] at hC hF
  unfold noSign at hns
  refine a4 (by simp) ?_
  simp (disch := first | assumption | omega | (simp only [List.length_append, List.length_cons, List.length_nil]; omega)) only [go_sem, reduceCtorEq, ↓reduceIte]
  refine hn.use ?_
  simp (disch := first | assumption | omega | (simp only [List.length_append, List.length_cons, List.length_nil]; omega)) only [go_sem, ↓reduceIte]
  refine ho.use ?_
  simp (disch := first | assumption | omega | (simp only [List.length_append, List.length_cons, List.length_nil]; omega)) only [go_sem, ↓reduceIte, Bool.true_and, hl, hany]
  refine ACalls.shr rfl (hC.mono ?_)
  rintro v σ' ⟨rfl, rfl⟩
  simp (disch := first | assumption | omega | (simp only [List.length_append, List.length_cons, List.length_nil]; omega)) only [go_sem, ↓reduceIte]
  refine hF.use ?_
  simp (disch := first | assumption | omega | (simp only [List.length_append, List.length_cons, List.length_nil]; omega)) only [go_sem, Nat.reduceEqDiff, ↓reduceIte]
  refine hA.mono ?_
  rintro v σ' ⟨rfl, rfl⟩
  by_cases c1 : n < 1
  ·simp (disch := first | assumption | omega | (simp only [List.length_append, List.length_cons, List.length_nil]; omega)) only [go_sem, reduceCtorEq, Nat.reduceEqDiff, ↓reduceIte, c1]
   exact retC_by (.refl _) (.refl _) ⟨rfl, rfl⟩
  by_cases c2 : 1114111 < n
  ·simp (disch := first | assumption | omega | (simp only [List.length_append, List.length_cons, List.length_nil]; omega)) only [go_sem, reduceCtorEq, Nat.reduceEqDiff, ↓reduceIte, c1, c2]
   exact retC_by (.refl _) (.refl _) ⟨rfl, rfl⟩
  have c3 : 55296 ≤ n := by omega
  have c4 : n ≤ 57343 := by omega
  simp (disch := first | assumption | omega | (simp only [List.length_append, List.length_cons, List.length_nil]; omega)) only [go_sem, reduceCtorEq, Nat.reduceEqDiff, ↓reduceIte, c1, c2, c3, c4]
  exact retC_by (.refl _) (.refl _) ⟨rfl, rfl⟩
 ·rw [if_neg hns] at hC
  obtain ⟨c, rfl⟩ : ∃ c : Nat, n = (c : Int) := ⟨n.toNat, by unfold noSign at hns; omega⟩
  have hcd := code_law hns
  have h1s := enc_one (c := c) (by unfold noSign at hns; omega)
  have hel := encU_len (c : Int)
  have hF := failed_ok (.text (encU c))
  have hX := asText_ok hT (.text (encU c)) trivial
  have hG : Pure Tryz.prog 7 [.str (encU c)] (sgAV (encU c)) := rsigns_ok _ (by omega)
  unfold sgAV at hG
  rw [h1s] at hG
  have hE := lc_CODE hT (encU c ++ [120]) (by rw [List.length_append, List.length_singleton]; omega) hcd (numP_good _)
  have hW := show_ok hT (numP c) (numP_good _)
  have hca := PV.av_cells (numP c)
  generalize showP (numP c) = SH at *
  generalize (numP c).av = NV at *
  generalize hAR : argAV (numP c) = AR at *
  have hany : AR.isAny = false := by rw [← hAR]; rfl
  simp only [PV.av, failedP, asTextP] at hC hF hX
  unfold nCODE at hE
  refine a4 (by simp) ?_
  simp (disch := first | assumption | omega | (simp only [List.length_append, List.length_cons, List.length_nil]; omega)) only [go_sem, reduceCtorEq, ↓reduceIte]
  refine hn.use ?_
  simp (disch := first | assumption | omega | (simp only [List.length_append, List.length_cons, List.length_nil]; omega)) only [go_sem, ↓reduceIte]
  refine ho.use ?_
  simp (disch := first | assumption | omega | (simp only [List.length_append, List.length_cons, List.length_nil]; omega)) only [go_sem, ↓reduceIte, Bool.true_and, hl, hany]
  refine ACalls.shr rfl (hC.mono ?_)
  rintro v σ' ⟨rfl, rfl⟩
  simp (disch := first | assumption | omega | (simp only [List.length_append, List.length_cons, List.length_nil]; omega)) only [go_sem, ↓reduceIte]
  refine hF.use ?_
  simp (disch := first | assumption | omega | (simp only [List.length_append, List.length_cons, List.length_nil]; omega)) only [go_sem, Nat.reduceEqDiff, ↓reduceIte]
  refine hX.mono ?_
  rintro v σ' ⟨rfl, rfl⟩
  simp (disch := first | assumption | omega | (simp only [List.length_append, List.length_cons, List.length_nil]; omega)) only [go_sem, Nat.reduceEqDiff, ↓reduceIte]
  refine hG.use ?_
  simp (disch := first | assumption | omega | (simp only [List.length_append, List.length_cons, List.length_nil]; omega)) only [go_sem, Nat.reduceEqDiff, ↓reduceIte]
  refine hA.mono ?_
  rintro v σ' ⟨rfl, rfl⟩
  simp (disch := first | assumption | omega | (simp only [List.length_append, List.length_cons, List.length_nil]; omega)) only [go_sem, Nat.reduceEqDiff, ↓reduceIte]
  refine ACalls.shr rfl (hE.mono ?_)
  rintro v σ' ⟨rfl, rfl⟩
  simp (disch := first | assumption | omega | (simp only [List.length_append, List.length_cons, List.length_nil]; omega)) only [go_sem, reduceCtorEq, Nat.reduceEqDiff, ↓reduceIte]
  refine hn.use ?_
  simp (disch := first | assumption | omega | (simp only [List.length_append, List.length_cons, List.length_nil]; omega)) only [go_sem, Nat.reduceEqDiff, ↓reduceIte]
  refine hW.mono ?_
  rintro v σ' ⟨rfl, rfl⟩
  simp (disch := first | assumption | omega | (simp only [List.length_append, List.length_cons, List.length_nil]; omega)) only [go_sem, Nat.reduceEqDiff, ↓reduceIte, eq_self]
  exact retC_by (.refl _) (.refl _) ⟨rfl, rfl⟩
end Go.A
namespace Go.Proofs.YteldgfhpffjdcaaGreatDoor
open Go Go.ChangeShapes Go.WideShapes Go.ChangeAt Go.RowKit Go.A Go.Lib Go.Shelf
theorem row_own : ownKnob Tryz.prog.godebug = none := by kernel_rfl
theorem row_laid : laidOutB Tryz.prog = true := by kernel_rfl
theorem first_eq : Rows.laid_unicode_utf8_first = firstData := by kernel_rfl
theorem acc_eq : (Rows.laid_unicode_utf8_acceptRanges : DataW Unit) = acceptData := by kernel_rfl
theorem u8_extra : U8Extra Tryz.prog Tryz.lays260_ren := ⟨by kernel_rfl, by kernel_rfl, by kernel_rfl, by kernel_rfl, by kernel_rfl, by kernel_rfl, by kernel_rfl⟩
theorem var_size {P : Program} {w : World} {n : String} {d : DataW Unit} (h : VarReads P w n d) {g : Nat} (hg : P.globalNamed n = some g) {t e : TypeId} {k : Nat} (hty : (P.globals[g]?).map (·.type) = some t) (ht : P.underlying t = some (.array k e)) :
  ∃ cs T fr, w.heap[g]? = some (.cells cs T fr) ∧ cs.size = P.cellsOf t := by
 obtain ⟨g', t', cs, fuel, p, hg', hty', hvar, hd⟩ := h
 obtain rfl := Option.some.inj (hg.symm.trans hg')
 obtain rfl := Option.some.inj (hty.symm.trans hty')
 have hlen : cs.toList.length = P.cellsOf t := by
  cases fuel with
  | zero => simp [DataW.trod] at hd
  | succ fuel =>
    simp only [DataW.trod, ht] at hd
    split at hd
    ·assumption
    ·cases hd
 unfold World.var? at hvar
 rw [hg, Option.bind_some] at hvar
 split at hvar
 ·rename_i cs' T fr hheap
  injection hvar with hvar
  subst hvar
  exact ⟨_, _, _, hheap, by simpa using hlen⟩
 ·cases hvar
theorem ints_reps {σ : ASt} {w : World} {k : IntKind} : ∀ zs : List Int, Reps σ w (zs.map (AV.int k)) (zs.map (Value.int k))
 | [] => .nil
 | z :: zs => .cons (.int k z) (ints_reps zs)
theorem fix_ok {σ : ASt} {W : World} {b : Nat} {zs : List Int} (hs : σ b = some (.fix (zs.map (AV.int .u8)))) {cs : Array Value} {T : TypeId} {fr : Nat × Nat} (hh : W.heap[b]? = some (.cells cs T fr)) (hsz : cs.size = zs.length)
  (hc : ∀ j z, zs[j]? = some z → W.cell? ⟨b, j, none⟩ = some (.int .u8 z)) : RoleOk σ W b (.fix (zs.map (AV.int .u8))) := by
 have hlt : b < W.heap.size := (Array.getElem?_eq_some_iff.1 hh).1
 refine ⟨At.mk' (ints_reps _) (fun j _ => ⟨hlt, .inr (.inl ⟨_, hs⟩)⟩) (fun j v hj => ?_), cs, T, fr, hh, by simpa using hsz⟩
 rw [List.getElem?_map] at hj
 obtain ⟨z, hz, rfl⟩ := Option.map_eq_some_iff.1 hj
 rw [Nat.zero_add]
 exact hc j z hz
def stOf : List (Nat × List AV) → ASt
 | [], _ => none
 | p :: ps, b => if b = p.1 then some (.fix p.2) else stOf ps b
theorem stOf_fix : ∀ {ps : List (Nat × List AV)} {b : Nat} {r : Role}, stOf ps b = some r → ∃ l, r = .fix l
 | [], _, _, h => by cases h
 | p :: ps, b, r, h => by
   simp only [stOf] at h
   split at h
   ·injection h with h; exact ⟨_, h.symm⟩
   ·exact stOf_fix h
theorem stOf_mem : ∀ {ps : List (Nat × List AV)} {b : Nat} {r : Role}, stOf ps b = some r → ∃ l, (b, l) ∈ ps ∧ r = .fix l
 | [], _, _, h => by cases h
 | p :: ps, b, r, h => by
   simp only [stOf] at h
   split at h
   ·rename_i hb
    injection h with h
    subst hb
    exact ⟨p.2, List.mem_cons_self, h.symm⟩
   ·obtain ⟨l, hl, he⟩ := stOf_mem h
    exact ⟨l, List.mem_cons_of_mem _ hl, he⟩
theorem still_fix {σ : ASt} (hfx : ∀ b r, σ b = some r → ∃ l, r = .fix l) {w : World} {b o : Nat} (h : b < w.heap.size) : Still σ w b o := by
 refine ⟨h, ?_⟩
 cases hb : σ b with
 | none => exact .inl rfl
 | some r => obtain ⟨l, rfl⟩ := hfx b r hb; exact .inr (.inl ⟨_, rfl⟩)
end Go.Proofs.YteldgfhpffjdcaaGreatDoor
namespace Go.A
section
variable {σ : ASt} {w : World}
theorem Still.fixed (hfx : ∀ b r, σ b = some r → ∃ l, r = .fix l) {b o : Nat} (h : Still noRole w b o) : Still σ w b o := by
 refine ⟨h.1, ?_⟩
 cases hb : σ b with
 | none => exact .inl rfl
 | some r => obtain ⟨l, rfl⟩ := hfx b r hb; exact .inr (.inl ⟨_, rfl⟩)
theorem Stands.fixed (hfx : ∀ b r, σ b = some r → ∃ l, r = .fix l) (b : Nat) : Stands σ b := by
 refine ⟨fun cs h => ?_, fun l p h => ?_, fun T cs h => ?_⟩ <;> (obtain ⟨l, hl⟩ := hfx b _ h; cases hl)
theorem SK.ok_fixed (hfx : ∀ b r, σ b = some r → ∃ l, r = .fix l) {k : SK} {b o n c sz : Nat} (h : k.ok noRole w b o n c sz) : k.ok σ w b o n c sz := by
 cases k with
 | shr => trivial
 | full => exact h
 | tok t s T => exact ⟨h.1, h.2.1, h.2.2.1, h.2.2.2.1, Stands.fixed hfx b⟩
mutual
theorem Rep.fixed (hfx : ∀ b r, σ b = some r → ∃ l, r = .fix l) : ∀ {a : AV} {v : Value}, Rep noRole w a v → Rep σ w a v
 | _, _, .any v => .any v
 | _, _, .bool b => .bool b
 | _, _, .int k n => .int k n
 | _, _, .str l => .str l
 | _, _, .ptr b o => .ptr b o
 | _, _, .imm h1 => .imm (h1.fixed hfx)
 | _, _, .nilp => .nilp
 | _, _, .slE A c => .slE A c
 | _, _, .slN => .slN
 | _, _, .sl h1 h2 h3 h4 h5 => .sl (h1.fixed hfx) h2 h3 (SK.ok_fixed hfx h4) h5
 | _, _, .msl b o n c => .msl b o n c
 | _, _, .agg h1 => .agg (h1.fixed hfx)
 | _, _, .tuple h1 => .tuple (h1.fixed hfx)
 | _, _, .iface h1 => .iface (h1.fixed hfx)
 | _, _, .nili => .nili
 | _, _, .func h1 h2 => .func (h1.fixed hfx) (h2.fixed hfx)
 | _, _, .nilf => .nilf
theorem Reps.fixed (hfx : ∀ b r, σ b = some r → ∃ l, r = .fix l) : ∀ {avs : List AV} {vs : List Value}, Reps noRole w avs vs → Reps σ w avs vs
 | _, _, .nil => .nil
 | _, _, .cons h1 h2 => .cons (h1.fixed hfx) (h2.fixed hfx)
theorem At.fixed (hfx : ∀ b r, σ b = some r → ∃ l, r = .fix l) : ∀ {b o : Nat} {avs : List AV}, At noRole w b o avs → At σ w b o avs
 | _, _, _, .nil b o => .nil b o
 | _, _, _, .cons h1 h2 h3 h4 => .cons (h1.fixed hfx) h2 (h3.fixed hfx) (h4.fixed hfx)
theorem Row.fixed (hfx : ∀ b r, σ b = some r → ∃ l, r = .fix l) : ∀ {b o sz : Nat} {avs : List AV}, Row noRole w b o sz avs → Row σ w b o sz avs
 | _, _, _, _, .nil b o sz => .nil b o sz
 | _, _, _, _, .cons h1 h2 h3 => .cons h1 (h2.fixed hfx) (h3.fixed hfx)
end
end
end Go.A
namespace Go.Proofs.YteldgfhpffjdcaaGreatDoor
open Go Go.ChangeShapes Go.WideShapes Go.ChangeAt Go.RowKit Go.A Go.Lib Go.Shelf
theorem u8_roles {σ : ASt} {W : World} (h3 : VarReads Tryz.prog W "unicode/utf8.first" firstData) (h4 : VarReads Tryz.prog W "unicode/utf8.acceptRanges" acceptData) :
  (σ 2 = some (.fix (firstTab.map (AV.int .u8))) → RoleOk σ W 2 (.fix (firstTab.map (AV.int .u8)))) ∧ (σ 3 = some (.fix (accTab.map (AV.int .u8))) → RoleOk σ W 3 (.fix (accTab.map (AV.int .u8)))) := by
 have hT := utf8Tabs_of_reads (ρ := Tryz.lays260_ren) Tryz.lays260 u8_extra h3 h4
 obtain ⟨hT1, hT2⟩ := hT
 have hT1 : ∀ c, c < 256 → W.cell? ⟨2, c, none⟩ = some (.int .u8 (firstT c)) := hT1
 have hT2 : ∀ i, i < 16 → W.cell? ⟨3, 2 * i, none⟩ = some (.int .u8 (accLo i)) ∧ W.cell? ⟨3, 2 * i + 1, none⟩ = some (.int .u8 (accHi i)) := hT2
 constructor
 ·intro hs
  obtain ⟨cs, T, fr, hh, hsz⟩ := var_size h3 (g := 2) (by kernel_rfl) u8_extra.y3 (Tryz.lays260.t119)
  refine fix_ok hs hh (hsz.trans (by kernel_rfl)) fun j z hj => ?_
  have hl := (List.getElem?_eq_some_iff.1 hj).1
  simp only [firstTab, List.length_map, List.length_range] at hl
  simp only [firstTab, List.getElem?_map, List.getElem?_range hl, Option.map_some, Option.some.injEq] at hj
  subst hj
  exact hT1 j hl
 ·intro hs
  obtain ⟨cs, T, fr, hh, hsz⟩ := var_size h4 (g := 3) (by kernel_rfl) u8_extra.y4 (Tryz.lays260.t139)
  refine fix_ok hs hh (hsz.trans (by kernel_rfl)) fun j z hj => ?_
  have hl := (List.getElem?_eq_some_iff.1 hj).1
  have key : ∀ j, j < 32 → accTab[j]? = some (if j % 2 = 0 then (accLo (j / 2) : Int) else accHi (j / 2)) := by decide
  have hl : j < 32 := hl
  rw [key j hl] at hj
  injection hj with hj
  subst hj
  obtain ⟨g1, g2⟩ := hT2 (j / 2) (by omega)
  split
  ·rw [show 2 * (j / 2) = j by omega] at g1; exact g1
  ·rw [show 2 * (j / 2) + 1 = j by omega] at g2; exact g2
theorem pow_role {σ : ASt} {W : World} (hfx : ∀ b r, σ b = some r → ∃ l, r = .fix l) (h3 : VarReads Tryz.prog W "internal/strconv.uint64pow10" (Lib.tabData .u64 Lib.pow10Tab)) :
  RoleOk σ W 1 (.fix (Lib.pow10Tab.map (AV.int .u64))) := by
 obtain ⟨g', t', cs, fuel, p, hg', ht', hvar, hd⟩ := h3
 obtain rfl := Option.some.inj ((show Tryz.prog.globalNamed "internal/strconv.uint64pow10" = some 1 by kernel_rfl).symm.trans hg')
 obtain rfl := Option.some.inj ((show (Tryz.prog.globals[1]?).map (·.type) = some 154 by kernel_rfl).symm.trans ht')
 have hcs := cells_of_tab (n := 20) (e := 70) (k := .u64) (by kernel_rfl) (by kernel_rfl) (by kernel_rfl) (by kernel_rfl) hd
 unfold World.var? at hvar
 rw [show Tryz.prog.globalNamed "internal/strconv.uint64pow10" = some 1 by kernel_rfl, Option.bind_some] at hvar
 split at hvar
 ·rename_i cs' T fr hheap
  injection hvar with hvar
  have hlt : 1 < W.heap.size := (Array.getElem?_eq_some_iff.1 hheap).1
  have he : cs' = (Lib.pow10Tab.map fun z => Value.int .u64 z).toArray := by rw [hvar]; exact Array.ext' (by simpa using hcs)
  refine ⟨At.mk' (ints_reps _) (fun j _ => still_fix hfx hlt) (fun j v hj => ?_), cs', T, fr, hheap, by rw [he]; simp⟩
  simp only [World.cell?, hheap, Nat.zero_add, he]
  simpa using hj
 ·cases hvar
theorem calls_st {ps : List (Nat × List AV)} {f : FuncId} {args : List AV} {vs : List Value} {w : World} (h : ACalls Tryz.prog f args (stOf ps) fun r σ' => r = .bool true ∧ σ' = stOf ps) (hs : Sim (stOf ps) w) (hr : Reps (stOf ps) w args vs) :
  Calls Tryz.prog f ⟨vs⟩ w fun e w' => e = .returned (.bool true) ∧ Ext w w' :=
 (h w vs hs hr).mono fun e w' ⟨u, r, σ', he, ⟨hrt, hst⟩, hle, _, hrep⟩ => by
  subst hrt hst
  cases hrep
  refine ⟨he, Ext.of_below ⟨hle.os, hle.tape, hle.output, hle.size, fun k hk => ?_⟩⟩
  cases hn : stOf ps k with
  | none => exact (hle.keep k hk hn).2
  | some r =>
    obtain ⟨l, rfl⟩ := stOf_fix hn
    exact (hle.fix k _ hk hn).2
end Go.Proofs.YteldgfhpffjdcaaGreatDoor
namespace Go.Proofs.YteldgfhpffjdcaaGreatDoor
open Go Go.ChangeShapes Go.WideShapes Go.ChangeAt Go.RowKit Go.A Go.Lib Go.Shelf
def laidU : List (String × DataW Unit) := [("math/bits.deBruijn32tab", Rows.laid_math_bits_deBruijn32tab), ("math/bits.deBruijn64tab", Rows.laid_math_bits_deBruijn64tab), ("internal/strconv.uint64pow10", Rows.laid_internal_strconv_uint64pow10), ("unicode/utf8.acceptRanges", Rows.laid_unicode_utf8_acceptRanges), ("tabular/deci.tens", Rows.laid_tabular_deci_tens), ("unicode/utf8.first", Rows.laid_unicode_utf8_first)]
def uPs : List (Nat × List AV) := [(2, firstTab.map (AV.int .u8)), (3, accTab.map (AV.int .u8)), (1, Lib.pow10Tab.map (AV.int .u64))]
def uSt : ASt := stOf uPs
theorem uSt_u8 : U8 uSt := ⟨by simp [uSt, uPs, stOf], by simp [uSt, uPs, stOf]⟩
theorem uSt_tab : Tab uSt := by simp [Tab, uSt, uPs, stOf]
theorem u_sim {W : World} (h : laidMetH Tryz.prog laidU W) : Sim uSt W := by
 rw [MakeChecks.laidMetH_plain _ _ _ (by kernel_rfl)] at h
 have hp : VarReads Tryz.prog W "internal/strconv.uint64pow10" (Lib.tabData .u64 Lib.pow10Tab) := Lib.laidMet.reads h (.tail _ (.tail _ (.head _)))
 have h4 : VarReads Tryz.prog W "unicode/utf8.acceptRanges" acceptData := acc_eq ▸ Lib.laidMet.reads h (.tail _ (.tail _ (.tail _ (.head _))))
 have h3 : VarReads Tryz.prog W "unicode/utf8.first" firstData := first_eq ▸ Lib.laidMet.reads h (.tail _ (.tail _ (.tail _ (.tail _ (.tail _ (.head _))))))
 obtain ⟨r1, r2⟩ := u8_roles (σ := uSt) h3 h4
 intro b r hb
 obtain ⟨l, hl, rfl⟩ := stOf_mem hb
 simp only [uPs, List.mem_cons, List.not_mem_nil, or_false, Prod.mk.injEq] at hl
 rcases hl with ⟨rfl, rfl⟩ | ⟨rfl, rfl⟩ | ⟨rfl, rfl⟩
 ·exact r1 uSt_u8.1
 ·exact r2 uSt_u8.2
 ·exact pow_role (fun _ _ => stOf_fix) hp
theorem calls_u {f : FuncId} {args : List AV} {vs : List Value} {w : World} (h : ACalls Tryz.prog f args uSt fun r σ' => r = .bool true ∧ σ' = uSt) (hs : Sim uSt w) (hr : Reps uSt w args vs) :
  Calls Tryz.prog f ⟨vs⟩ w fun e w' => e = .returned (.bool true) ∧ Ext w w' := calls_st h hs hr
end Go.Proofs.YteldgfhpffjdcaaGreatDoor
