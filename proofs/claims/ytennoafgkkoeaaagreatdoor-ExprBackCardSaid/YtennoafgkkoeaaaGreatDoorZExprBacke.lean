/- Part 5 of what ExprBack leans on: CodeGa Ga CodeGb Gb CodeGc Gc CodeGd Gd Gp Wc CodeH Tg Za Ea Shelf Wz Wa. -/
import Derived.Test.YtennoafgkkoeaaaGreatDoorProg
import Derived.KernelRfl
import Derived.Lib.ItoaNum
import Derived.Lib.MapLaws
import Derived.Lib.RuneCount
import Derived.Shelf.Strings.Builder1
import Derived.Shelf.Strings.Builder2
import Derived.Shelf.Strings.Trim
import Derived.Shelf.Small.Utf8
import Derived.Shelf.Small.Strs
import Derived.Shelf.Strings.BuilderF
import Derived.Shelf.Strings.BuilderK
import Derived.Shelf.Strings.BuilderRune
import Derived.Shelf.Utf8.AppendRunePlain
import Derived.Shelf.Utf8.RuneCount
import Derived.Shelf.Strings.Builder2Cap
import Derived.Shelf.Strconv.Itoa0
import Derived.Shelf.Strconv.Itoa1
import Derived.Shelf.LaysM
import Derived.Shelf.Strconv.Itoa2
import Derived.Shelf.Strconv.Itoa3
import Derived.Shelf.Strings.Search1
import Derived.Shelf.Strings.Search2
import Derived.Shelf.Strings.Search3
import Derived.Shelf.Strings.Cut
import Derived.Shelf.Strings.Count
import Derived.Shelf.Strings.Shaped
import Derived.Shelf.Strings.Prefix
import Derived.Shelf.Strings.Split
import Derived.Shelf.Strings.Replace
import Derived.Shelf.Strings.SplitShaped
import Derived.Shelf.Strings.Runes
import Derived.Shelf.Strings.RuneCount
import Derived.Shelf.Strings.AsciiSet
import Derived.Shelf.Unicode.DecodeSlow
import Derived.Shelf.Unicode.DecodeAny
import Derived.Shelf.Strings.BuilderCap
import Derived.Lib.ItoaMem
import Derived.Test.YtennoafgkkoeaaaGreatDoorZExprBackd
namespace Go.A
open Go.Proofs
/-! 165: tabular/addr.letter -/
def c165_0 : ACode := .ops [
 ⟨some 2, none, .q (.mv (.v (.int .i64 0))), []⟩]
def c165_1 : ACode := .ops [
 ⟨some 4, none, .q (.mv (.t 0)), []⟩,
 ⟨some 5, none, .q (.bin .geq (.t 4) (.v (.int .u8 65))), []⟩,
 ⟨some 6, none, .q (.mv (.t 5)), []⟩,
 ⟨some 7, some (6, true), .q (.mv (.t 0)), []⟩,
 ⟨some 8, some (6, true), .q (.bin .leq (.t 7) (.v (.int .u8 90))), []⟩,
 ⟨some 9, none, .q (.pick (.t 6) (.t 8) (.v (.bool false))), []⟩,
 ⟨some 3, none, .q (.mv (.t 9)), []⟩]
def c165_2 : ACode := .ops [
 ⟨some 10, none, .q (.mv (.t 0)), []⟩,
 ⟨some 11, none, .q (.bin .sub (.t 10) (.v (.int .u8 65))), []⟩,
 ⟨some 12, none, .q (.conv .i64 (.t 11)), []⟩,
 ⟨some 13, none, .q (.bin .add (.t 12) (.v (.int .i64 1))), []⟩,
 ⟨some 2, none, .q (.mv (.t 13)), []⟩]
def c165_3 : ACode := .seq c165_2 .ret
def c165_4 : ACode := .ops [
 ⟨some 15, none, .q (.mv (.t 0)), []⟩,
 ⟨some 16, none, .q (.bin .geq (.t 15) (.v (.int .u8 97))), []⟩,
 ⟨some 17, none, .q (.mv (.t 16)), []⟩,
 ⟨some 18, some (17, true), .q (.mv (.t 0)), []⟩,
 ⟨some 19, some (17, true), .q (.bin .leq (.t 18) (.v (.int .u8 122))), []⟩,
 ⟨some 20, none, .q (.pick (.t 17) (.t 19) (.v (.bool false))), []⟩,
 ⟨some 14, none, .q (.mv (.t 20)), []⟩]
def c165_5 : ACode := .ops [
 ⟨some 21, none, .q (.mv (.t 0)), []⟩,
 ⟨some 22, none, .q (.bin .sub (.t 21) (.v (.int .u8 97))), []⟩,
 ⟨some 23, none, .q (.conv .i64 (.t 22)), []⟩,
 ⟨some 24, none, .q (.bin .add (.t 23) (.v (.int .i64 1))), []⟩,
 ⟨some 2, none, .q (.mv (.t 24)), []⟩]
def c165_6 : ACode := .seq c165_5 .ret
def c165_7 : ACode := .cond (.t 14) c165_6 .skip
def c165_8 : ACode := .seq c165_4 c165_7
def c165_9 : ACode := .cond (.t 3) c165_3 c165_8
def c165_10 : ACode := .seq c165_1 c165_9
def c165_11 : ACode := .block 0 c165_10
def c165_12 : ACode := .ops [
 ⟨some 2, none, .q (.mv (.v (.int .i64 0))), []⟩]
def c165_13 : ACode := .seq c165_12 .ret
def c165_14 : ACode := .seq c165_11 c165_13
def c165_15 : ACode := .seq c165_0 c165_14
@[go_sem] theorem c165_0_wp : type_of% (wp_of c165_0.eq_1) := wp_of c165_0.eq_1
@[go_sem] theorem c165_1_wp : type_of% (wp_of c165_1.eq_1) := wp_of c165_1.eq_1
@[go_sem] theorem c165_2_wp : type_of% (wp_of c165_2.eq_1) := wp_of c165_2.eq_1
@[go_sem] theorem c165_3_wp : type_of% (wp_of c165_3.eq_1) := wp_of c165_3.eq_1
@[go_sem] theorem c165_4_wp : type_of% (wp_of c165_4.eq_1) := wp_of c165_4.eq_1
@[go_sem] theorem c165_5_wp : type_of% (wp_of c165_5.eq_1) := wp_of c165_5.eq_1
@[go_sem] theorem c165_6_wp : type_of% (wp_of c165_6.eq_1) := wp_of c165_6.eq_1
@[go_sem] theorem c165_7_wp : type_of% (wp_of c165_7.eq_1) := wp_of c165_7.eq_1
@[go_sem] theorem c165_8_wp : type_of% (wp_of c165_8.eq_1) := wp_of c165_8.eq_1
@[go_sem] theorem c165_9_wp : type_of% (wp_of c165_9.eq_1) := wp_of c165_9.eq_1
@[go_sem] theorem c165_10_wp : type_of% (wp_of c165_10.eq_1) := wp_of c165_10.eq_1
@[go_sem] theorem c165_11_wp : type_of% (wp_of c165_11.eq_1) := wp_of c165_11.eq_1
@[go_sem] theorem c165_12_wp : type_of% (wp_of c165_12.eq_1) := wp_of c165_12.eq_1
@[go_sem] theorem c165_13_wp : type_of% (wp_of c165_13.eq_1) := wp_of c165_13.eq_1
@[go_sem] theorem c165_14_wp : type_of% (wp_of c165_14.eq_1) := wp_of c165_14.eq_1
@[go_sem] theorem c165_15_wp : type_of% (wp_of c165_15.eq_1) := wp_of c165_15.eq_1
def c165 : AFn := ⟨25, [.t 2], c165_15⟩
set_option maxRecDepth 100000 in
theorem c165_ok : compF Tryz.prog Tryz.f165 = some c165 := by kernel_rfl
theorem a165 {args : List AV} {σ : ASt} {R : AV → ASt → Prop} (hl : args.length ≤ 25) (h : c165_15.wp Tryz.prog (RetQ [.t 2] R) (init args) σ) : ACalls Tryz.prog 165 args σ R := acalls_of Tryz.func165 c165_ok hl h
end Go.A
namespace Go.A
open Go.Proofs
set_option maxRecDepth 100000
set_option linter.unusedSimpArgs false
set_option linter.unusedVariables false
def letterP (c : Int) : Int := if 65 ≤ c ∧ c ≤ 90 then c - 64 else if 97 ≤ c ∧ c ≤ 122 then c - 96 else 0
theorem letter_ok (c : Int) (h0 : 0 ≤ c) (h1 : c ≤ 255) : Pure Tryz.prog 165 [.int .u8 c] (.int .i64 (letterP c)) := by
  intro σ
  refine a165 (by simp) ?_
  repeat' (first | (simp (disch := first | assumption | omega | (simp only [List.length_append, List.length_cons, List.length_nil]; omega)) only [go_sem, reduceCtorEq, Nat.reduceEqDiff, ↓reduceIte]) | with_reducible refine gC_d (fun h => ?_) (fun h => ?_) | with_reducible refine gC_dn (fun h => ?_) (fun h => ?_) | with_reducible refine condC_d (fun h => ?_) (fun h => ?_) | with_reducible refine condC_n (fun h => ?_) (fun h => ?_) | with_reducible refine condC_b (fun h => ?_) (fun h => ?_) | with_reducible refine boxC_by ?_ fun b hb => ?_)
  all_goals refine retC_by (Drop.refl _) (.refl _) ⟨?_, rfl⟩
  all_goals (simp only [letterP, resV_one]; congr 1; repeat' split) <;> omega
structure Ref where
  row : Int
  col : Int
  absRow : Bool
  absCol : Bool
  deriving DecidableEq, Inhabited
def refAV (r : Ref) : AV := .agg [.int .i64 r.row, .int .i64 r.col, .bool r.absRow, .bool r.absCol]
def Ref.good (r : Ref) : Bool := decide (0 ≤ r.row ∧ r.row < 3000 ∧ 0 ≤ r.col ∧ r.col < 700)
def Ref.zero : Ref := ⟨0, 0, false, false⟩
end Go.A
namespace Go.A
open Go.Proofs
/-! 87: tabular/addr.Letters -/
def c87_0 : ACode := .ops [
 ⟨some 2, none, .q (.mv (.v (.str []))), []⟩]
def c87_1 : ACode := .ops [
 ⟨some 4, none, .q (.mv (.t 0)), []⟩,
 ⟨some 5, none, .q (.bin .lss (.t 4) (.v (.int .i64 0))), []⟩,
 ⟨some 6, none, .q (.mv (.t 5)), []⟩,
 ⟨some 7, some (6, false), .q (.mv (.t 0)), []⟩,
 ⟨some 8, some (6, false), .q (.bin .geq (.t 7) (.v (.int .i64 700))), []⟩,
 ⟨some 9, none, .q (.pick (.t 6) (.v (.bool true)) (.t 8)), []⟩]
def c87_2 : ACode := .ops [
 ⟨some 2, none, .q (.mv (.v (.str []))), []⟩]
def c87_3 : ACode := .seq c87_2 .ret
def c87_4 : ACode := .cond (.t 9) c87_3 .skip
def c87_5 : ACode := .seq c87_1 c87_4
def c87_6 : ACode := .ops [
 ⟨some 3, none, .q (.mv (.v (.str []))), []⟩]
def c87_7 : ACode := .ops [
 ⟨some 10, none, .q (.mv (.t 0)), []⟩,
 ⟨some 11, none, .q (.bin .add (.t 10) (.v (.int .i64 1))), []⟩,
 ⟨some 0, none, .q (.mv (.t 11)), []⟩]
def c87_8 : ACode := .ops [
 ⟨some 12, none, .q (.mv (.t 0)), []⟩,
 ⟨some 13, none, .q (.bin .gtr (.t 12) (.v (.int .i64 0))), []⟩]
def c87_9 : ACode := .cond (.t 13) .skip (.exit 0)
def c87_10 : ACode := .seq c87_8 c87_9
def c87_11 : ACode := .ops [
 ⟨some 17, none, .q (.mv (.t 0)), []⟩,
 ⟨some 18, none, .q (.bin .sub (.t 17) (.v (.int .i64 1))), []⟩,
 ⟨some 19, none, .q (.bin .rem (.t 18) (.v (.int .i64 26))), []⟩,
 ⟨some 20, none, .q (.bin .add (.v (.int .i64 65)) (.t 19)), []⟩,
 ⟨some 21, none, .q (.conv .u8 (.t 20)), []⟩,
 ⟨some 22, none, .q (.bsl 1 [(.t 21)]), []⟩,
 ⟨some 23, none, .q (.b2s (.t 22)), []⟩,
 ⟨some 24, none, .q (.mv (.t 3)), []⟩,
 ⟨some 25, none, .q (.bin .add (.t 23) (.t 24)), []⟩,
 ⟨some 3, none, .q (.mv (.t 25)), []⟩]
def c87_12 : ACode := .block 1 c87_11
def c87_13 : ACode := .ops [
 ⟨some 14, none, .q (.mv (.t 0)), []⟩,
 ⟨some 15, none, .q (.bin .sub (.t 14) (.v (.int .i64 1))), []⟩,
 ⟨some 16, none, .q (.bin .quo (.t 15) (.v (.int .i64 26))), []⟩,
 ⟨some 0, none, .q (.mv (.t 16)), []⟩]
def c87_14 : ACode := .seq c87_12 c87_13
def c87_15 : ACode := .seq c87_10 c87_14
def c87_16 : ACode := .loop c87_15
def c87_17 : ACode := .block 0 c87_16
def c87_18 : ACode := .seq c87_7 c87_17
def c87_19 : ACode := .ops [
 ⟨some 26, none, .q (.mv (.t 3)), []⟩,
 ⟨some 2, none, .q (.mv (.t 26)), []⟩]
def c87_20 : ACode := .seq c87_19 .ret
def c87_21 : ACode := .seq c87_18 c87_20
def c87_22 : ACode := .seq c87_6 c87_21
def c87_23 : ACode := .seq c87_5 c87_22
def c87_24 : ACode := .seq c87_0 c87_23
@[go_sem] theorem c87_0_wp : type_of% (wp_of c87_0.eq_1) := wp_of c87_0.eq_1
@[go_sem] theorem c87_1_wp : type_of% (wp_of c87_1.eq_1) := wp_of c87_1.eq_1
@[go_sem] theorem c87_2_wp : type_of% (wp_of c87_2.eq_1) := wp_of c87_2.eq_1
@[go_sem] theorem c87_3_wp : type_of% (wp_of c87_3.eq_1) := wp_of c87_3.eq_1
@[go_sem] theorem c87_4_wp : type_of% (wp_of c87_4.eq_1) := wp_of c87_4.eq_1
@[go_sem] theorem c87_5_wp : type_of% (wp_of c87_5.eq_1) := wp_of c87_5.eq_1
@[go_sem] theorem c87_6_wp : type_of% (wp_of c87_6.eq_1) := wp_of c87_6.eq_1
@[go_sem] theorem c87_7_wp : type_of% (wp_of c87_7.eq_1) := wp_of c87_7.eq_1
@[go_sem] theorem c87_8_wp : type_of% (wp_of c87_8.eq_1) := wp_of c87_8.eq_1
@[go_sem] theorem c87_9_wp : type_of% (wp_of c87_9.eq_1) := wp_of c87_9.eq_1
@[go_sem] theorem c87_10_wp : type_of% (wp_of c87_10.eq_1) := wp_of c87_10.eq_1
@[go_sem] theorem c87_11_wp : type_of% (wp_of c87_11.eq_1) := wp_of c87_11.eq_1
@[go_sem] theorem c87_12_wp : type_of% (wp_of c87_12.eq_1) := wp_of c87_12.eq_1
@[go_sem] theorem c87_13_wp : type_of% (wp_of c87_13.eq_1) := wp_of c87_13.eq_1
@[go_sem] theorem c87_14_wp : type_of% (wp_of c87_14.eq_1) := wp_of c87_14.eq_1
@[go_sem] theorem c87_15_wp : type_of% (wp_of c87_15.eq_1) := wp_of c87_15.eq_1
@[go_sem] theorem c87_16_wp : type_of% (wp_of c87_16.eq_1) := wp_of c87_16.eq_1
@[go_sem] theorem c87_17_wp : type_of% (wp_of c87_17.eq_1) := wp_of c87_17.eq_1
@[go_sem] theorem c87_18_wp : type_of% (wp_of c87_18.eq_1) := wp_of c87_18.eq_1
@[go_sem] theorem c87_19_wp : type_of% (wp_of c87_19.eq_1) := wp_of c87_19.eq_1
@[go_sem] theorem c87_20_wp : type_of% (wp_of c87_20.eq_1) := wp_of c87_20.eq_1
@[go_sem] theorem c87_21_wp : type_of% (wp_of c87_21.eq_1) := wp_of c87_21.eq_1
@[go_sem] theorem c87_22_wp : type_of% (wp_of c87_22.eq_1) := wp_of c87_22.eq_1
@[go_sem] theorem c87_23_wp : type_of% (wp_of c87_23.eq_1) := wp_of c87_23.eq_1
@[go_sem] theorem c87_24_wp : type_of% (wp_of c87_24.eq_1) := wp_of c87_24.eq_1
def c87 : AFn := ⟨27, [.t 2], c87_24⟩
set_option maxRecDepth 100000 in
theorem c87_ok : compF Tryz.prog Tryz.f87 = some c87 := by kernel_rfl
theorem a87 {args : List AV} {σ : ASt} {R : AV → ASt → Prop} (hl : args.length ≤ 27) (h : c87_24.wp Tryz.prog (RetQ [.t 2] R) (init args) σ) : ACalls Tryz.prog 87 args σ R := acalls_of Tryz.func87 c87_ok hl h
/-! 166: tabular/addr.Column -/
def c166_0 : ACode := .ops [
 ⟨some 2, none, .q (.mv (.v (.int .i64 0))), []⟩,
 ⟨some 3, none, .q (.mv (.v (.bool false))), []⟩]
def c166_1 : ACode := .ops [
 ⟨some 4, none, .q (.mv (.v (.int .i64 0))), []⟩]
def c166_2 : ACode := .ops [
 ⟨some 7, none, .q (.mv (.t 0)), []⟩,
 ⟨some 8, none, .e (.s2b (.t 7)), []⟩,
 ⟨some 9, none, .q (.len (.t 8)), []⟩,
 ⟨some 10, none, .q (.mv (.v (.int .i64 0))), []⟩]
def c166_3 : ACode := .ops [
 ⟨some 11, none, .q (.bin .lss (.t 10) (.t 9)), []⟩]
def c166_4 : ACode := .cond (.t 11) .skip (.exit 0)
def c166_5 : ACode := .ops [
 ⟨some 12, none, .q (.ia 1 (.t 8) (.t 10)), []⟩,
 ⟨some 13, none, .q (.ld none (.t 12)), []⟩,
 ⟨some 6, none, .q (.mv (.t 13)), []⟩]
def c166_6 : ACode := .ops [
 ⟨some 14, none, .q (.mv (.t 6)), []⟩,
 ⟨some 15, none, .e (.call 165 [(.t 14)]), []⟩,
 ⟨some 16, none, .q (.bin .eql (.t 15) (.v (.int .i64 0))), []⟩,
 ⟨some 17, none, .q (.mv (.t 16)), []⟩,
 ⟨some 18, some (17, false), .q (.mv (.t 4)), []⟩,
 ⟨some 19, some (17, false), .q (.bin .gtr (.t 18) (.v (.int .i64 700))), []⟩,
 ⟨some 20, none, .q (.pick (.t 17) (.v (.bool true)) (.t 19)), []⟩]
def c166_7 : ACode := .ops [
 ⟨some 2, none, .q (.mv (.v (.int .i64 0))), []⟩,
 ⟨some 3, none, .q (.mv (.v (.bool false))), []⟩]
def c166_8 : ACode := .seq c166_7 .ret
def c166_9 : ACode := .cond (.t 20) c166_8 .skip
def c166_10 : ACode := .seq c166_6 c166_9
def c166_11 : ACode := .ops [
 ⟨some 21, none, .q (.mv (.t 4)), []⟩,
 ⟨some 22, none, .q (.bin .mul (.v (.int .i64 26)) (.t 21)), []⟩,
 ⟨some 23, none, .q (.mv (.t 6)), []⟩,
 ⟨some 24, none, .e (.call 165 [(.t 23)]), []⟩,
 ⟨some 25, none, .q (.bin .add (.t 22) (.t 24)), []⟩,
 ⟨some 4, none, .q (.mv (.t 25)), []⟩]
def c166_12 : ACode := .seq c166_10 c166_11
def c166_13 : ACode := .seq c166_5 c166_12
def c166_14 : ACode := .block 1 c166_13
def c166_15 : ACode := .ops [
 ⟨some 26, none, .q (.bin .add (.t 10) (.v (.int .i64 1))), []⟩,
 ⟨some 10, none, .q (.mv (.t 26)), []⟩]
def c166_16 : ACode := .seq c166_14 c166_15
def c166_17 : ACode := .seq c166_4 c166_16
def c166_18 : ACode := .seq c166_3 c166_17
def c166_19 : ACode := .loop c166_18
def c166_20 : ACode := .block 0 c166_19
def c166_21 : ACode := .seq c166_2 c166_20
def c166_22 : ACode := .ops [
 ⟨some 27, none, .q (.mv (.t 4)), []⟩,
 ⟨some 28, none, .q (.bin .lss (.t 27) (.v (.int .i64 1))), []⟩,
 ⟨some 29, none, .q (.mv (.t 28)), []⟩,
 ⟨some 30, some (29, false), .q (.mv (.t 4)), []⟩,
 ⟨some 31, some (29, false), .q (.bin .gtr (.t 30) (.v (.int .i64 700))), []⟩,
 ⟨some 32, none, .q (.pick (.t 29) (.v (.bool true)) (.t 31)), []⟩]
def c166_23 : ACode := .ops [
 ⟨some 2, none, .q (.mv (.v (.int .i64 0))), []⟩,
 ⟨some 3, none, .q (.mv (.v (.bool false))), []⟩]
def c166_24 : ACode := .seq c166_23 .ret
def c166_25 : ACode := .cond (.t 32) c166_24 .skip
def c166_26 : ACode := .seq c166_22 c166_25
def c166_27 : ACode := .ops [
 ⟨some 33, none, .q (.mv (.t 4)), []⟩,
 ⟨some 34, none, .q (.bin .sub (.t 33) (.v (.int .i64 1))), []⟩,
 ⟨some 2, none, .q (.mv (.t 34)), []⟩,
 ⟨some 3, none, .q (.mv (.v (.bool true))), []⟩]
def c166_28 : ACode := .seq c166_27 .ret
def c166_29 : ACode := .seq c166_26 c166_28
def c166_30 : ACode := .seq c166_21 c166_29
def c166_31 : ACode := .seq c166_1 c166_30
def c166_32 : ACode := .seq c166_0 c166_31
@[go_sem] theorem c166_0_wp : type_of% (wp_of c166_0.eq_1) := wp_of c166_0.eq_1
@[go_sem] theorem c166_1_wp : type_of% (wp_of c166_1.eq_1) := wp_of c166_1.eq_1
@[go_sem] theorem c166_2_wp : type_of% (wp_of c166_2.eq_1) := wp_of c166_2.eq_1
@[go_sem] theorem c166_3_wp : type_of% (wp_of c166_3.eq_1) := wp_of c166_3.eq_1
@[go_sem] theorem c166_4_wp : type_of% (wp_of c166_4.eq_1) := wp_of c166_4.eq_1
@[go_sem] theorem c166_5_wp : type_of% (wp_of c166_5.eq_1) := wp_of c166_5.eq_1
@[go_sem] theorem c166_6_wp : type_of% (wp_of c166_6.eq_1) := wp_of c166_6.eq_1
@[go_sem] theorem c166_7_wp : type_of% (wp_of c166_7.eq_1) := wp_of c166_7.eq_1
@[go_sem] theorem c166_8_wp : type_of% (wp_of c166_8.eq_1) := wp_of c166_8.eq_1
@[go_sem] theorem c166_9_wp : type_of% (wp_of c166_9.eq_1) := wp_of c166_9.eq_1
@[go_sem] theorem c166_10_wp : type_of% (wp_of c166_10.eq_1) := wp_of c166_10.eq_1
@[go_sem] theorem c166_11_wp : type_of% (wp_of c166_11.eq_1) := wp_of c166_11.eq_1
@[go_sem] theorem c166_12_wp : type_of% (wp_of c166_12.eq_1) := wp_of c166_12.eq_1
@[go_sem] theorem c166_13_wp : type_of% (wp_of c166_13.eq_1) := wp_of c166_13.eq_1
@[go_sem] theorem c166_14_wp : type_of% (wp_of c166_14.eq_1) := wp_of c166_14.eq_1
@[go_sem] theorem c166_15_wp : type_of% (wp_of c166_15.eq_1) := wp_of c166_15.eq_1
@[go_sem] theorem c166_16_wp : type_of% (wp_of c166_16.eq_1) := wp_of c166_16.eq_1
@[go_sem] theorem c166_17_wp : type_of% (wp_of c166_17.eq_1) := wp_of c166_17.eq_1
@[go_sem] theorem c166_18_wp : type_of% (wp_of c166_18.eq_1) := wp_of c166_18.eq_1
@[go_sem] theorem c166_19_wp : type_of% (wp_of c166_19.eq_1) := wp_of c166_19.eq_1
@[go_sem] theorem c166_20_wp : type_of% (wp_of c166_20.eq_1) := wp_of c166_20.eq_1
@[go_sem] theorem c166_21_wp : type_of% (wp_of c166_21.eq_1) := wp_of c166_21.eq_1
@[go_sem] theorem c166_22_wp : type_of% (wp_of c166_22.eq_1) := wp_of c166_22.eq_1
@[go_sem] theorem c166_23_wp : type_of% (wp_of c166_23.eq_1) := wp_of c166_23.eq_1
@[go_sem] theorem c166_24_wp : type_of% (wp_of c166_24.eq_1) := wp_of c166_24.eq_1
@[go_sem] theorem c166_25_wp : type_of% (wp_of c166_25.eq_1) := wp_of c166_25.eq_1
@[go_sem] theorem c166_26_wp : type_of% (wp_of c166_26.eq_1) := wp_of c166_26.eq_1
@[go_sem] theorem c166_27_wp : type_of% (wp_of c166_27.eq_1) := wp_of c166_27.eq_1
@[go_sem] theorem c166_28_wp : type_of% (wp_of c166_28.eq_1) := wp_of c166_28.eq_1
@[go_sem] theorem c166_29_wp : type_of% (wp_of c166_29.eq_1) := wp_of c166_29.eq_1
@[go_sem] theorem c166_30_wp : type_of% (wp_of c166_30.eq_1) := wp_of c166_30.eq_1
@[go_sem] theorem c166_31_wp : type_of% (wp_of c166_31.eq_1) := wp_of c166_31.eq_1
@[go_sem] theorem c166_32_wp : type_of% (wp_of c166_32.eq_1) := wp_of c166_32.eq_1
def c166 : AFn := ⟨35, [.t 2, .t 3], c166_32⟩
set_option maxRecDepth 100000 in
theorem c166_ok : compF Tryz.prog Tryz.f166 = some c166 := by kernel_rfl
theorem a166 {args : List AV} {σ : ASt} {R : AV → ASt → Prop} (hl : args.length ≤ 35) (h : c166_32.wp Tryz.prog (RetQ [.t 2, .t 3] R) (init args) σ) : ACalls Tryz.prog 166 args σ R := acalls_of Tryz.func166 c166_ok hl h
end Go.A
namespace Go.A
open Go.Proofs
set_option maxRecDepth 100000
set_option linter.unusedSimpArgs false
set_option linter.unusedVariables false
def lettersF : Nat → Nat → List UInt8
  | 0, _ => []
  | k + 1, n => if n = 0 then [] else lettersF k ((n - 1) / 26) ++ [UInt8.ofNat (65 + (n - 1) % 26)]
def lettersP (col : Int) : List UInt8 := if col < 0 ∨ 700 ≤ col then [] else lettersF 4 (col + 1).toNat
theorem letters_ok (col : Int) : Pure Tryz.prog 87 [.int .i64 col] (.str (lettersP col)) := by
  intro σ
  obtain ⟨q, hq⟩ : ∃ q, lettersP col = q := ⟨_, rfl⟩
  rw [hq]
  unfold lettersP at hq
  refine a87 (by simp) ?_
  by_cases hc : col < 0 ∨ 700 ≤ col
  · rw [if_pos hc] at hq
    subst hq
    repeat' (first | (simp (disch := first | assumption | omega | (simp only [List.length_append, List.length_cons, List.length_nil]; omega)) only [go_sem, reduceCtorEq, Nat.reduceEqDiff, ↓reduceIte]) | with_reducible refine gC_d (fun h => ?_) (fun h => ?_) | with_reducible refine gC_dn (fun h => ?_) (fun h => ?_) | with_reducible refine condC_d (fun h => ?_) (fun h => ?_) | with_reducible refine condC_n (fun h => ?_) (fun h => ?_) | with_reducible refine condC_b (fun h => ?_) (fun h => ?_) | with_reducible refine boxC_by ?_ fun b hb => ?_)
    all_goals first | (exfalso; omega) | exact retC_by (Drop.refl _) (.refl _) ⟨rfl, rfl⟩
  · rw [if_neg hc] at hq
    obtain ⟨N, hN⟩ : ∃ N, (col + 1).toNat = N := ⟨_, rfl⟩
    rw [hN] at hq
    have h0 : ¬ col < 0 := by omega
    have h1 : ¬ 700 ≤ col := by omega
    have hc1 : col + 1 = (N : Int) := by omega
    simp (disch := first | assumption | omega | (simp only [List.length_append, List.length_cons, List.length_nil]; omega)) only [go_sem, reduceCtorEq, Nat.reduceEqDiff, ↓reduceIte, h0, h1, hc1]
    refine wp_loop_by (fun (i : Nat × Nat × List UInt8) a σ' => i.2.1 < 26 ^ i.1 ∧ i.1 ≤ 4 ∧ i.2.2.length + i.1 = 4 ∧ q = lettersF i.1 i.2.1 ++ i.2.2 ∧ a 0 = .int .i64 i.2.1 ∧ a 3 = .str i.2.2 ∧ σ' = σ) (fun i => i.1) (4, N, []) (Dr.now ⟨by dsimp only; omega, by simp, by simp, by simp [hq], ?_, ?_, rfl⟩) ?_
    · simp (disch := first | assumption | omega | (simp only [List.length_append, List.length_cons, List.length_nil]; omega)) only [go_sem, ↓reduceIte]
    · simp (disch := first | assumption | omega | (simp only [List.length_append, List.length_cons, List.length_nil]; omega)) only [go_sem, reduceCtorEq, Nat.reduceEqDiff, ↓reduceIte]
    rintro ⟨k, n, s⟩ a σ1 ⟨hn, hk, hs, hqe, h0, h3, rfl⟩
    dsimp only at hn hk hs hqe h0 h3
    by_cases hz : n = 0
    · subst hz
      simp (disch := first | assumption | omega | (simp only [List.length_append, List.length_cons, List.length_nil]; omega)) only [go_sem, Nat.reduceEqDiff, Int.reduceLT, ↓reduceIte, h0, h3]
      refine retC_by (Drop.refl _) (.refl _) ⟨?_, rfl⟩
      have e : lettersF k 0 = [] := by cases k <;> rfl
      rw [hqe, e]; rfl
    · obtain ⟨m, rfl⟩ : ∃ m, n = m + 1 := ⟨n - 1, by omega⟩
      have hb : (m : Int) < 456976 := by
        have := Nat.pow_le_pow_right (n := 26) (by omega) hk
        omega
      have hp : 0 < (m : Int) + 1 := by omega
      have e1 : (m : Int) + 1 - 1 = m := by omega
      have e2 : (m : Int).tmod 26 = ((m % 26 : Nat) : Int) := rfl
      have e3 : (m : Int).tdiv 26 = ((m / 26 : Nat) : Int) := rfl
      have e4 : (65 + ((m % 26 : Nat) : Int)).toNat = 65 + m % 26 := by omega
      have hk0 : k ≠ 0 := by rintro rfl; simp at hn
      obtain ⟨k, rfl⟩ : ∃ k', k = k' + 1 := ⟨k - 1, by omega⟩
      have hs1 : 1 + s.length ≤ 9223372036854775807 := by omega
      simp (disch := first | assumption | omega | (simp only [List.length_append, List.length_cons, List.length_nil]; omega)) only [go_sem, reduceCtorEq, Nat.reduceEqDiff, ↓reduceIte, Bool.true_and, h0, h3, hp, e1, e2, e3, e4]
      refine ⟨(k, m / 26, UInt8.ofNat (65 + m % 26) :: s), by dsimp only; omega, Dr.now ⟨?_, by dsimp only; omega, by simp; omega, ?_, ?_, ?_, rfl⟩⟩
      · dsimp only
        rw [Nat.pow_succ] at hn
        omega
      · dsimp only
        rw [hqe, lettersF, if_neg (by omega)]
        simp
      · simp (disch := first | assumption | omega | (simp only [List.length_append, List.length_cons, List.length_nil]; omega)) only [go_sem, ↓reduceIte]
      · simp (disch := first | assumption | omega | (simp only [List.length_append, List.length_cons, List.length_nil]; omega)) only [go_sem, reduceCtorEq, Nat.reduceEqDiff, ↓reduceIte]
def colF : Int → List UInt8 → Option Int
  | n, [] => some n
  | n, c :: cs => if letterP c.toNat = 0 ∨ 700 < n then none else colF (26 * n + letterP c.toNat) cs
def columnP (l : List UInt8) : Int × Bool :=
  match colF 0 l with
  | some n => if n < 1 ∨ 700 < n then (0, false) else (n - 1, true)
  | none => (0, false)
theorem letterP_bd (c : Int) : 0 ≤ letterP c ∧ letterP c ≤ 26 := by
  unfold letterP
  split
  · omega
  · split <;> omega
theorem column_ok (l : List UInt8) (hl : l.length ≤ 9223372036854775807) : Pure Tryz.prog 166 [.str l] (.tuple [.int .i64 (columnP l).1, .bool (columnP l).2]) := by
  intro σ
  obtain ⟨q, hq⟩ : ∃ q, columnP l = q := ⟨_, rfl⟩
  rw [hq]
  refine a166 (by simp) ?_
  simp (disch := first | assumption | omega | (simp only [List.length_append, List.length_cons, List.length_nil]; omega)) only [go_sem, reduceCtorEq, ↓reduceIte]
  refine s2b_shr ?_
  simp (disch := first | assumption | omega | (simp only [List.length_append, List.length_cons, List.length_nil]; omega)) only [go_sem, ↓reduceIte]
  refine wp_loop_by (fun (i : Nat × Int) a σ' => i.1 ≤ l.length ∧ 0 ≤ i.2 ∧ i.2 ≤ 18226 ∧ colF 0 l = colF i.2 (l.drop i.1) ∧ a 4 = .int .i64 i.2 ∧ a 8 = .sl .shr (bytesAV l) ∧ a 9 = .int .i64 l.length ∧ a 10 = .int .i64 i.1 ∧ a 2 = .int .i64 0 ∧ a 3 = .bool false ∧ σ' = σ) (fun i => l.length - i.1) (0, 0) (Dr.now ⟨by simp, by simp, by simp, rfl, ?_, ?_, ?_, ?_, ?_, ?_, rfl⟩) ?_
  · simp (disch := first | assumption | omega | (simp only [List.length_append, List.length_cons, List.length_nil]; omega)) only [go_sem, Nat.reduceEqDiff, ↓reduceIte]
  · simp (disch := first | assumption | omega | (simp only [List.length_append, List.length_cons, List.length_nil]; omega)) only [go_sem, Nat.reduceEqDiff, ↓reduceIte]
  · simp (disch := first | assumption | omega | (simp only [List.length_append, List.length_cons, List.length_nil]; omega)) only [go_sem, Nat.reduceEqDiff, ↓reduceIte]
  · simp (disch := first | assumption | omega | (simp only [List.length_append, List.length_cons, List.length_nil]; omega)) only [go_sem, ↓reduceIte]
  · simp (disch := first | assumption | omega | (simp only [List.length_append, List.length_cons, List.length_nil]; omega)) only [go_sem, Nat.reduceEqDiff, ↓reduceIte]
  · simp (disch := first | assumption | omega | (simp only [List.length_append, List.length_cons, List.length_nil]; omega)) only [go_sem, Nat.reduceEqDiff, ↓reduceIte]
  rintro ⟨i, n⟩ a σ1 ⟨hi, hn0, hn1, hcol, h4, h8, h9, h10, h2, h3, rfl⟩
  dsimp only at hi hn0 hn1 hcol h4 h10
  by_cases hlt : i < l.length
  · have hidx : l[i]? = some (l[i]'hlt) := List.getElem?_eq_getElem hlt
    obtain ⟨c, hc⟩ : ∃ c, l[i]'hlt = c := ⟨_, rfl⟩
    rw [hc] at hidx
    have hcb : (c.toNat : Int) ≤ 255 := by have := c.toNat_lt; omega
    have hbd := letterP_bd c.toNat
    rw [List.drop_eq_getElem_cons hlt, hc, colF] at hcol
    repeat' (first | (simp (disch := first | assumption | omega | (simp only [List.length_append, List.length_cons, List.length_nil]; omega)) only [go_sem, Nat.reduceEqDiff, ↓reduceIte, h4, h8, h9, h10, hidx]) | refine (letter_ok c.toNat (by omega) hcb).use ?_ | with_reducible refine gC_d (fun h => ?_) (fun h => ?_) | with_reducible refine gC_dn (fun h => ?_) (fun h => ?_) | with_reducible refine condC_d (fun h => ?_) (fun h => ?_) | with_reducible refine condC_n (fun h => ?_) (fun h => ?_) | with_reducible refine condC_b (fun h => ?_) (fun h => ?_) | with_reducible refine boxC_by ?_ fun b hb => ?_)
    · rw [if_pos (by omega)] at hcol
      unfold columnP at hq
      rw [hcol] at hq
      subst hq
      exact retC_by (Drop.refl _) (.refl _) ⟨rfl, rfl⟩
    · rename_i hz
      rw [if_neg (by omega)] at hcol
      refine ⟨(i + 1, 26 * n + letterP c.toNat), by dsimp only; omega, Dr.now ⟨by dsimp only; omega, by dsimp only; omega, by dsimp only; omega, hcol, ?_, ?_, ?_, ?_, ?_, ?_, rfl⟩⟩
      · simp (disch := first | assumption | omega | (simp only [List.length_append, List.length_cons, List.length_nil]; omega)) only [go_sem, Nat.reduceEqDiff, ↓reduceIte]
      · simp (disch := first | assumption | omega | (simp only [List.length_append, List.length_cons, List.length_nil]; omega)) only [go_sem, Nat.reduceEqDiff, ↓reduceIte, h8]
      · simp (disch := first | assumption | omega | (simp only [List.length_append, List.length_cons, List.length_nil]; omega)) only [go_sem, Nat.reduceEqDiff, ↓reduceIte, h9]
      · simp (disch := first | assumption | omega | (simp only [List.length_append, List.length_cons, List.length_nil]; omega)) only [go_sem, ↓reduceIte]
      · simp (disch := first | assumption | omega | (simp only [List.length_append, List.length_cons, List.length_nil]; omega)) only [go_sem, Nat.reduceEqDiff, ↓reduceIte, h2]
      · simp (disch := first | assumption | omega | (simp only [List.length_append, List.length_cons, List.length_nil]; omega)) only [go_sem, Nat.reduceEqDiff, ↓reduceIte, h3]
    · rw [if_pos (by omega)] at hcol
      unfold columnP at hq
      rw [hcol] at hq
      subst hq
      exact retC_by (Drop.refl _) (.refl _) ⟨rfl, rfl⟩
  · have e : l.drop i = [] := List.drop_eq_nil_of_le (by omega)
    rw [e, colF] at hcol
    unfold columnP at hq
    rw [hcol] at hq
    repeat' (first | (simp (disch := first | assumption | omega | (simp only [List.length_append, List.length_cons, List.length_nil]; omega)) only [go_sem, Nat.reduceEqDiff, ↓reduceIte, h4, h9, h10]) | with_reducible refine gC_d (fun h => ?_) (fun h => ?_) | with_reducible refine gC_dn (fun h => ?_) (fun h => ?_) | with_reducible refine condC_d (fun h => ?_) (fun h => ?_) | with_reducible refine condC_n (fun h => ?_) (fun h => ?_) | with_reducible refine condC_b (fun h => ?_) (fun h => ?_) | with_reducible refine boxC_by ?_ fun b hb => ?_)
    all_goals refine retC_by (Drop.refl _) (.refl _) ⟨?_, rfl⟩
    all_goals (simp only [resV_two] at *; split at hq) <;> first | (subst hq; rfl) | (exfalso; omega)
end Go.A
namespace Go.A
open Go.Proofs
/-! 163: tabular/addr.Read -/
def c163_0 : ACode := .ops [
 ⟨some 2, none, .e (.alloc [(.int .i64 0), (.int .i64 0), (.bool false), (.bool false)]), []⟩,
 ⟨some 3, none, .q (.mv (.v (.int .i64 0))), []⟩]
def c163_1 : ACode := .ops [
 ⟨some 4, none, .e (.alloc [(.int .i64 0), (.int .i64 0), (.bool false), (.bool false)]), []⟩]
def c163_2 : ACode := .ops [
 ⟨some 5, none, .q (.mv (.v (.int .i64 0))), []⟩]
def c163_3 : ACode := .ops [
 ⟨some 11, none, .q (.mv (.t 5)), []⟩,
 ⟨some 12, none, .q (.mv (.t 0)), []⟩,
 ⟨some 13, none, .q (.lenS (.t 12)), []⟩,
 ⟨some 14, none, .q (.bin .lss (.t 11) (.t 13)), []⟩,
 ⟨some 15, none, .q (.mv (.t 14)), []⟩,
 ⟨some 16, some (15, true), .q (.mv (.t 0)), []⟩,
 ⟨some 17, some (15, true), .q (.mv (.t 5)), []⟩,
 ⟨some 18, some (15, true), .q (.idx (.t 16) (.t 17)), []⟩,
 ⟨some 19, some (15, true), .q (.bin .eql (.t 18) (.v (.int .u8 36))), []⟩,
 ⟨some 20, none, .q (.pick (.t 15) (.t 19) (.v (.bool false))), []⟩]
def c163_4 : ACode := .ops [
 ⟨some 21, none, .q (.fa 3 (.t 4)), []⟩,
 ⟨none, none, .e (.store 1 (.t 21) (.v (.bool true))), []⟩]
def c163_5 : ACode := .ops [
 ⟨some 22, none, .q (.mv (.t 5)), []⟩,
 ⟨some 23, none, .q (.bin .add (.t 22) (.v (.int .i64 1))), []⟩,
 ⟨some 5, none, .q (.mv (.t 23)), []⟩]
def c163_6 : ACode := .seq c163_4 c163_5
def c163_7 : ACode := .cond (.t 20) c163_6 .skip
def c163_8 : ACode := .seq c163_3 c163_7
def c163_9 : ACode := .ops [
 ⟨some 24, none, .q (.mv (.t 5)), []⟩,
 ⟨some 6, none, .q (.mv (.t 24)), []⟩]
def c163_10 : ACode := .ops [
 ⟨some 25, none, .q (.mv (.t 5)), []⟩,
 ⟨some 26, none, .q (.mv (.t 0)), []⟩,
 ⟨some 27, none, .q (.lenS (.t 26)), []⟩,
 ⟨some 28, none, .q (.bin .lss (.t 25) (.t 27)), []⟩,
 ⟨some 29, none, .q (.mv (.t 28)), []⟩,
 ⟨some 30, some (29, true), .q (.mv (.t 0)), []⟩,
 ⟨some 31, some (29, true), .q (.mv (.t 5)), []⟩,
 ⟨some 32, some (29, true), .q (.idx (.t 30) (.t 31)), []⟩,
 ⟨some 33, some (29, true), .e (.call 165 [(.t 32)]), []⟩,
 ⟨some 34, some (29, true), .q (.bin .gtr (.t 33) (.v (.int .i64 0))), []⟩,
 ⟨some 35, none, .q (.pick (.t 29) (.t 34) (.v (.bool false))), []⟩]
def c163_11 : ACode := .cond (.t 35) .skip (.exit 0)
def c163_12 : ACode := .seq c163_10 c163_11
def c163_13 : ACode := .ops [
 ⟨some 36, none, .q (.mv (.t 5)), []⟩,
 ⟨some 37, none, .q (.bin .add (.t 36) (.v (.int .i64 1))), []⟩,
 ⟨some 5, none, .q (.mv (.t 37)), []⟩]
def c163_14 : ACode := .block 1 c163_13
def c163_15 : ACode := .seq c163_12 c163_14
def c163_16 : ACode := .loop c163_15
def c163_17 : ACode := .block 0 c163_16
def c163_18 : ACode := .ops [
 ⟨some 39, none, .q (.mv (.t 0)), []⟩,
 ⟨some 40, none, .q (.mv (.t 6)), []⟩,
 ⟨some 41, none, .q (.mv (.t 5)), []⟩,
 ⟨some 42, none, .q (.sls (true, 0) (.t 39) (.t 40) (.t 41)), []⟩,
 ⟨some 43, none, .e (.call 166 [(.t 42)]), []⟩,
 ⟨some 38, none, .q (.mv (.t 43)), []⟩,
 ⟨some 44, none, .q (.ext 0 (.t 38)), []⟩,
 ⟨some 45, none, .q (.ext 1 (.t 38)), []⟩,
 ⟨some 7, none, .q (.mv (.t 44)), []⟩,
 ⟨some 8, none, .q (.mv (.t 45)), []⟩]
def c163_19 : ACode := .ops [
 ⟨some 46, none, .q (.mv (.t 8)), []⟩,
 ⟨some 47, none, .q (.un .not (.t 46)), []⟩]
def c163_20 : ACode := .ops [
 ⟨some 48, none, .q (.build [(.int .i64 0), (.int .i64 0), (.bool false), (.bool false)] []), []⟩,
 ⟨none, none, .e (.store 4 (.t 2) (.t 48)), []⟩,
 ⟨some 3, none, .q (.mv (.v (.int .i64 0))), []⟩]
def c163_21 : ACode := .seq c163_20 .ret
def c163_22 : ACode := .cond (.t 47) c163_21 .skip
def c163_23 : ACode := .seq c163_19 c163_22
def c163_24 : ACode := .ops [
 ⟨some 49, none, .q (.mv (.t 5)), []⟩,
 ⟨some 50, none, .q (.mv (.t 0)), []⟩,
 ⟨some 51, none, .q (.lenS (.t 50)), []⟩,
 ⟨some 52, none, .q (.bin .lss (.t 49) (.t 51)), []⟩,
 ⟨some 53, none, .q (.mv (.t 52)), []⟩,
 ⟨some 54, some (53, true), .q (.mv (.t 0)), []⟩,
 ⟨some 55, some (53, true), .q (.mv (.t 5)), []⟩,
 ⟨some 56, some (53, true), .q (.idx (.t 54) (.t 55)), []⟩,
 ⟨some 57, some (53, true), .q (.bin .eql (.t 56) (.v (.int .u8 36))), []⟩,
 ⟨some 58, none, .q (.pick (.t 53) (.t 57) (.v (.bool false))), []⟩]
def c163_25 : ACode := .ops [
 ⟨some 59, none, .q (.fa 2 (.t 4)), []⟩,
 ⟨none, none, .e (.store 1 (.t 59) (.v (.bool true))), []⟩]
def c163_26 : ACode := .ops [
 ⟨some 60, none, .q (.mv (.t 5)), []⟩,
 ⟨some 61, none, .q (.bin .add (.t 60) (.v (.int .i64 1))), []⟩,
 ⟨some 5, none, .q (.mv (.t 61)), []⟩]
def c163_27 : ACode := .seq c163_25 c163_26
def c163_28 : ACode := .cond (.t 58) c163_27 .skip
def c163_29 : ACode := .seq c163_24 c163_28
def c163_30 : ACode := .ops [
 ⟨some 62, none, .q (.mv (.t 5)), []⟩,
 ⟨some 9, none, .q (.mv (.v (.int .i64 0))), []⟩,
 ⟨some 10, none, .q (.mv (.t 62)), []⟩]
def c163_31 : ACode := .ops [
 ⟨some 63, none, .q (.mv (.t 5)), []⟩,
 ⟨some 64, none, .q (.mv (.t 0)), []⟩,
 ⟨some 65, none, .q (.lenS (.t 64)), []⟩,
 ⟨some 66, none, .q (.bin .lss (.t 63) (.t 65)), []⟩,
 ⟨some 67, none, .q (.mv (.t 66)), []⟩,
 ⟨some 68, some (67, true), .q (.mv (.t 0)), []⟩,
 ⟨some 69, some (67, true), .q (.mv (.t 5)), []⟩,
 ⟨some 70, some (67, true), .q (.idx (.t 68) (.t 69)), []⟩,
 ⟨some 71, some (67, true), .q (.bin .geq (.t 70) (.v (.int .u8 48))), []⟩,
 ⟨some 72, none, .q (.pick (.t 67) (.t 71) (.v (.bool false))), []⟩,
 ⟨some 73, none, .q (.mv (.t 72)), []⟩,
 ⟨some 74, some (73, true), .q (.mv (.t 0)), []⟩,
 ⟨some 75, some (73, true), .q (.mv (.t 5)), []⟩,
 ⟨some 76, some (73, true), .q (.idx (.t 74) (.t 75)), []⟩,
 ⟨some 77, some (73, true), .q (.bin .leq (.t 76) (.v (.int .u8 57))), []⟩,
 ⟨some 78, none, .q (.pick (.t 73) (.t 77) (.v (.bool false))), []⟩]
def c163_32 : ACode := .cond (.t 78) .skip (.exit 2)
def c163_33 : ACode := .seq c163_31 c163_32
def c163_34 : ACode := .ops [
 ⟨some 79, none, .q (.mv (.t 9)), []⟩,
 ⟨some 80, none, .q (.bin .mul (.v (.int .i64 10)) (.t 79)), []⟩,
 ⟨some 81, none, .q (.mv (.t 0)), []⟩,
 ⟨some 82, none, .q (.mv (.t 5)), []⟩,
 ⟨some 83, none, .q (.idx (.t 81) (.t 82)), []⟩,
 ⟨some 84, none, .q (.bin .sub (.t 83) (.v (.int .u8 48))), []⟩,
 ⟨some 85, none, .q (.conv .i64 (.t 84)), []⟩,
 ⟨some 86, none, .q (.bin .add (.t 80) (.t 85)), []⟩,
 ⟨some 87, none, .q (.mnx false (.t 86) (.v (.int .i64 3001))), []⟩,
 ⟨some 9, none, .q (.mv (.t 87)), []⟩]
def c163_35 : ACode := .ops [
 ⟨some 88, none, .q (.mv (.t 5)), []⟩,
 ⟨some 89, none, .q (.bin .add (.t 88) (.v (.int .i64 1))), []⟩,
 ⟨some 5, none, .q (.mv (.t 89)), []⟩]
def c163_36 : ACode := .seq c163_34 c163_35
def c163_37 : ACode := .block 3 c163_36
def c163_38 : ACode := .seq c163_33 c163_37
def c163_39 : ACode := .loop c163_38
def c163_40 : ACode := .block 2 c163_39
def c163_41 : ACode := .ops [
 ⟨some 90, none, .q (.mv (.t 9)), []⟩,
 ⟨some 91, none, .q (.bin .lss (.t 90) (.v (.int .i64 1))), []⟩,
 ⟨some 92, none, .q (.mv (.t 91)), []⟩,
 ⟨some 93, some (92, false), .q (.mv (.t 9)), []⟩,
 ⟨some 94, some (92, false), .q (.bin .gtr (.t 93) (.v (.int .i64 3000))), []⟩,
 ⟨some 95, none, .q (.pick (.t 92) (.v (.bool true)) (.t 94)), []⟩,
 ⟨some 96, none, .q (.mv (.t 95)), []⟩,
 ⟨some 97, some (96, false), .q (.mv (.t 0)), []⟩,
 ⟨some 98, some (96, false), .q (.mv (.t 10)), []⟩,
 ⟨some 99, some (96, false), .q (.idx (.t 97) (.t 98)), []⟩,
 ⟨some 100, some (96, false), .q (.bin .eql (.t 99) (.v (.int .u8 48))), []⟩,
 ⟨some 101, none, .q (.pick (.t 96) (.v (.bool true)) (.t 100)), []⟩,
 ⟨some 102, none, .q (.mv (.t 101)), []⟩,
 ⟨some 103, some (102, false), .q (.mv (.t 0)), []⟩,
 ⟨some 104, some (102, false), .q (.mv (.t 5)), []⟩,
 ⟨some 105, some (102, false), .e (.call 167 [(.t 103), (.t 104)]), []⟩,
 ⟨some 106, some (102, false), .e (.call 165 [(.t 105)]), []⟩,
 ⟨some 107, some (102, false), .q (.bin .gtr (.t 106) (.v (.int .i64 0))), []⟩,
 ⟨some 108, none, .q (.pick (.t 102) (.v (.bool true)) (.t 107)), []⟩,
 ⟨some 109, none, .q (.mv (.t 108)), []⟩,
 ⟨some 110, some (109, false), .q (.mv (.t 0)), []⟩,
 ⟨some 111, some (109, false), .q (.mv (.t 5)), []⟩,
 ⟨some 112, some (109, false), .e (.call 167 [(.t 110), (.t 111)]), []⟩,
 ⟨some 113, some (109, false), .q (.bin .eql (.t 112) (.v (.int .u8 95))), []⟩,
 ⟨some 114, none, .q (.pick (.t 109) (.v (.bool true)) (.t 113)), []⟩]
def c163_42 : ACode := .ops [
 ⟨some 115, none, .q (.build [(.int .i64 0), (.int .i64 0), (.bool false), (.bool false)] []), []⟩,
 ⟨none, none, .e (.store 4 (.t 2) (.t 115)), []⟩,
 ⟨some 3, none, .q (.mv (.v (.int .i64 0))), []⟩]
def c163_43 : ACode := .seq c163_42 .ret
def c163_44 : ACode := .cond (.t 114) c163_43 .skip
def c163_45 : ACode := .seq c163_41 c163_44
def c163_46 : ACode := .ops [
 ⟨some 116, none, .q (.mv (.t 9)), []⟩,
 ⟨some 117, none, .q (.bin .sub (.t 116) (.v (.int .i64 1))), []⟩,
 ⟨some 118, none, .q (.mv (.t 7)), []⟩,
 ⟨some 119, none, .q (.fa 0 (.t 4)), []⟩,
 ⟨none, none, .e (.store 1 (.t 119) (.t 117)), []⟩,
 ⟨some 120, none, .q (.fa 1 (.t 4)), []⟩,
 ⟨none, none, .e (.store 1 (.t 120) (.t 118)), []⟩]
def c163_47 : ACode := .ops [
 ⟨some 121, none, .q (.ld (some 4) (.t 4)), []⟩,
 ⟨some 122, none, .q (.mv (.t 5)), []⟩,
 ⟨none, none, .e (.store 4 (.t 2) (.t 121)), []⟩,
 ⟨some 3, none, .q (.mv (.t 122)), []⟩]
def c163_48 : ACode := .seq c163_47 .ret
def c163_49 : ACode := .seq c163_46 c163_48
def c163_50 : ACode := .seq c163_45 c163_49
def c163_51 : ACode := .seq c163_40 c163_50
def c163_52 : ACode := .seq c163_30 c163_51
def c163_53 : ACode := .seq c163_29 c163_52
def c163_54 : ACode := .seq c163_23 c163_53
def c163_55 : ACode := .seq c163_18 c163_54
def c163_56 : ACode := .seq c163_17 c163_55
def c163_57 : ACode := .seq c163_9 c163_56
def c163_58 : ACode := .seq c163_8 c163_57
def c163_59 : ACode := .seq c163_2 c163_58
def c163_60 : ACode := .seq c163_1 c163_59
def c163_61 : ACode := .seq c163_0 c163_60
@[go_sem] theorem c163_0_wp : type_of% (wp_of c163_0.eq_1) := wp_of c163_0.eq_1
@[go_sem] theorem c163_1_wp : type_of% (wp_of c163_1.eq_1) := wp_of c163_1.eq_1
@[go_sem] theorem c163_2_wp : type_of% (wp_of c163_2.eq_1) := wp_of c163_2.eq_1
@[go_sem] theorem c163_3_wp : type_of% (wp_of c163_3.eq_1) := wp_of c163_3.eq_1
@[go_sem] theorem c163_4_wp : type_of% (wp_of c163_4.eq_1) := wp_of c163_4.eq_1
@[go_sem] theorem c163_5_wp : type_of% (wp_of c163_5.eq_1) := wp_of c163_5.eq_1
@[go_sem] theorem c163_6_wp : type_of% (wp_of c163_6.eq_1) := wp_of c163_6.eq_1
@[go_sem] theorem c163_7_wp : type_of% (wp_of c163_7.eq_1) := wp_of c163_7.eq_1
@[go_sem] theorem c163_8_wp : type_of% (wp_of c163_8.eq_1) := wp_of c163_8.eq_1
@[go_sem] theorem c163_9_wp : type_of% (wp_of c163_9.eq_1) := wp_of c163_9.eq_1
@[go_sem] theorem c163_10_wp : type_of% (wp_of c163_10.eq_1) := wp_of c163_10.eq_1
@[go_sem] theorem c163_11_wp : type_of% (wp_of c163_11.eq_1) := wp_of c163_11.eq_1
@[go_sem] theorem c163_12_wp : type_of% (wp_of c163_12.eq_1) := wp_of c163_12.eq_1
@[go_sem] theorem c163_13_wp : type_of% (wp_of c163_13.eq_1) := wp_of c163_13.eq_1
@[go_sem] theorem c163_14_wp : type_of% (wp_of c163_14.eq_1) := wp_of c163_14.eq_1
@[go_sem] theorem c163_15_wp : type_of% (wp_of c163_15.eq_1) := wp_of c163_15.eq_1
@[go_sem] theorem c163_16_wp : type_of% (wp_of c163_16.eq_1) := wp_of c163_16.eq_1
@[go_sem] theorem c163_17_wp : type_of% (wp_of c163_17.eq_1) := wp_of c163_17.eq_1
@[go_sem] theorem c163_18_wp : type_of% (wp_of c163_18.eq_1) := wp_of c163_18.eq_1
@[go_sem] theorem c163_19_wp : type_of% (wp_of c163_19.eq_1) := wp_of c163_19.eq_1
@[go_sem] theorem c163_20_wp : type_of% (wp_of c163_20.eq_1) := wp_of c163_20.eq_1
@[go_sem] theorem c163_21_wp : type_of% (wp_of c163_21.eq_1) := wp_of c163_21.eq_1
@[go_sem] theorem c163_22_wp : type_of% (wp_of c163_22.eq_1) := wp_of c163_22.eq_1
@[go_sem] theorem c163_23_wp : type_of% (wp_of c163_23.eq_1) := wp_of c163_23.eq_1
@[go_sem] theorem c163_24_wp : type_of% (wp_of c163_24.eq_1) := wp_of c163_24.eq_1
@[go_sem] theorem c163_25_wp : type_of% (wp_of c163_25.eq_1) := wp_of c163_25.eq_1
@[go_sem] theorem c163_26_wp : type_of% (wp_of c163_26.eq_1) := wp_of c163_26.eq_1
@[go_sem] theorem c163_27_wp : type_of% (wp_of c163_27.eq_1) := wp_of c163_27.eq_1
@[go_sem] theorem c163_28_wp : type_of% (wp_of c163_28.eq_1) := wp_of c163_28.eq_1
@[go_sem] theorem c163_29_wp : type_of% (wp_of c163_29.eq_1) := wp_of c163_29.eq_1
@[go_sem] theorem c163_30_wp : type_of% (wp_of c163_30.eq_1) := wp_of c163_30.eq_1
@[go_sem] theorem c163_31_wp : type_of% (wp_of c163_31.eq_1) := wp_of c163_31.eq_1
@[go_sem] theorem c163_32_wp : type_of% (wp_of c163_32.eq_1) := wp_of c163_32.eq_1
@[go_sem] theorem c163_33_wp : type_of% (wp_of c163_33.eq_1) := wp_of c163_33.eq_1
@[go_sem] theorem c163_34_wp : type_of% (wp_of c163_34.eq_1) := wp_of c163_34.eq_1
@[go_sem] theorem c163_35_wp : type_of% (wp_of c163_35.eq_1) := wp_of c163_35.eq_1
@[go_sem] theorem c163_36_wp : type_of% (wp_of c163_36.eq_1) := wp_of c163_36.eq_1
@[go_sem] theorem c163_37_wp : type_of% (wp_of c163_37.eq_1) := wp_of c163_37.eq_1
@[go_sem] theorem c163_38_wp : type_of% (wp_of c163_38.eq_1) := wp_of c163_38.eq_1
@[go_sem] theorem c163_39_wp : type_of% (wp_of c163_39.eq_1) := wp_of c163_39.eq_1
@[go_sem] theorem c163_40_wp : type_of% (wp_of c163_40.eq_1) := wp_of c163_40.eq_1
@[go_sem] theorem c163_41_wp : type_of% (wp_of c163_41.eq_1) := wp_of c163_41.eq_1
@[go_sem] theorem c163_42_wp : type_of% (wp_of c163_42.eq_1) := wp_of c163_42.eq_1
@[go_sem] theorem c163_43_wp : type_of% (wp_of c163_43.eq_1) := wp_of c163_43.eq_1
@[go_sem] theorem c163_44_wp : type_of% (wp_of c163_44.eq_1) := wp_of c163_44.eq_1
@[go_sem] theorem c163_45_wp : type_of% (wp_of c163_45.eq_1) := wp_of c163_45.eq_1
@[go_sem] theorem c163_46_wp : type_of% (wp_of c163_46.eq_1) := wp_of c163_46.eq_1
@[go_sem] theorem c163_47_wp : type_of% (wp_of c163_47.eq_1) := wp_of c163_47.eq_1
@[go_sem] theorem c163_48_wp : type_of% (wp_of c163_48.eq_1) := wp_of c163_48.eq_1
@[go_sem] theorem c163_49_wp : type_of% (wp_of c163_49.eq_1) := wp_of c163_49.eq_1
@[go_sem] theorem c163_50_wp : type_of% (wp_of c163_50.eq_1) := wp_of c163_50.eq_1
@[go_sem] theorem c163_51_wp : type_of% (wp_of c163_51.eq_1) := wp_of c163_51.eq_1
@[go_sem] theorem c163_52_wp : type_of% (wp_of c163_52.eq_1) := wp_of c163_52.eq_1
@[go_sem] theorem c163_53_wp : type_of% (wp_of c163_53.eq_1) := wp_of c163_53.eq_1
@[go_sem] theorem c163_54_wp : type_of% (wp_of c163_54.eq_1) := wp_of c163_54.eq_1
@[go_sem] theorem c163_55_wp : type_of% (wp_of c163_55.eq_1) := wp_of c163_55.eq_1
@[go_sem] theorem c163_56_wp : type_of% (wp_of c163_56.eq_1) := wp_of c163_56.eq_1
@[go_sem] theorem c163_57_wp : type_of% (wp_of c163_57.eq_1) := wp_of c163_57.eq_1
@[go_sem] theorem c163_58_wp : type_of% (wp_of c163_58.eq_1) := wp_of c163_58.eq_1
@[go_sem] theorem c163_59_wp : type_of% (wp_of c163_59.eq_1) := wp_of c163_59.eq_1
@[go_sem] theorem c163_60_wp : type_of% (wp_of c163_60.eq_1) := wp_of c163_60.eq_1
@[go_sem] theorem c163_61_wp : type_of% (wp_of c163_61.eq_1) := wp_of c163_61.eq_1
def c163 : AFn := ⟨123, [.c 2 (some 4), .t 3], c163_61⟩
set_option maxRecDepth 100000 in
theorem c163_ok : compF Tryz.prog Tryz.f163 = some c163 := by kernel_rfl
theorem a163 {args : List AV} {σ : ASt} {R : AV → ASt → Prop} (hl : args.length ≤ 123) (h : c163_61.wp Tryz.prog (RetQ [.c 2 (some 4), .t 3] R) (init args) σ) : ACalls Tryz.prog 163 args σ R := acalls_of Tryz.func163 c163_ok hl h
/-! 167: tabular/addr.at -/
def c167_0 : ACode := .ops [
 ⟨some 4, none, .q (.mv (.v (.int .u8 0))), []⟩]
def c167_1 : ACode := .ops [
 ⟨some 5, none, .q (.mv (.t 1)), []⟩,
 ⟨some 6, none, .q (.mv (.t 0)), []⟩,
 ⟨some 7, none, .q (.lenS (.t 6)), []⟩,
 ⟨some 8, none, .q (.bin .lss (.t 5) (.t 7)), []⟩]
def c167_2 : ACode := .ops [
 ⟨some 9, none, .q (.mv (.t 0)), []⟩,
 ⟨some 10, none, .q (.mv (.t 1)), []⟩,
 ⟨some 11, none, .q (.idx (.t 9) (.t 10)), []⟩,
 ⟨some 4, none, .q (.mv (.t 11)), []⟩]
def c167_3 : ACode := .seq c167_2 .ret
def c167_4 : ACode := .cond (.t 8) c167_3 .skip
def c167_5 : ACode := .seq c167_1 c167_4
def c167_6 : ACode := .ops [
 ⟨some 4, none, .q (.mv (.v (.int .u8 0))), []⟩]
def c167_7 : ACode := .seq c167_6 .ret
def c167_8 : ACode := .seq c167_5 c167_7
def c167_9 : ACode := .seq c167_0 c167_8
@[go_sem] theorem c167_0_wp : type_of% (wp_of c167_0.eq_1) := wp_of c167_0.eq_1
@[go_sem] theorem c167_1_wp : type_of% (wp_of c167_1.eq_1) := wp_of c167_1.eq_1
@[go_sem] theorem c167_2_wp : type_of% (wp_of c167_2.eq_1) := wp_of c167_2.eq_1
@[go_sem] theorem c167_3_wp : type_of% (wp_of c167_3.eq_1) := wp_of c167_3.eq_1
@[go_sem] theorem c167_4_wp : type_of% (wp_of c167_4.eq_1) := wp_of c167_4.eq_1
@[go_sem] theorem c167_5_wp : type_of% (wp_of c167_5.eq_1) := wp_of c167_5.eq_1
@[go_sem] theorem c167_6_wp : type_of% (wp_of c167_6.eq_1) := wp_of c167_6.eq_1
@[go_sem] theorem c167_7_wp : type_of% (wp_of c167_7.eq_1) := wp_of c167_7.eq_1
@[go_sem] theorem c167_8_wp : type_of% (wp_of c167_8.eq_1) := wp_of c167_8.eq_1
@[go_sem] theorem c167_9_wp : type_of% (wp_of c167_9.eq_1) := wp_of c167_9.eq_1
def c167 : AFn := ⟨12, [.t 4], c167_9⟩
set_option maxRecDepth 100000 in
theorem c167_ok : compF Tryz.prog Tryz.f167 = some c167 := by kernel_rfl
theorem a167 {args : List AV} {σ : ASt} {R : AV → ASt → Prop} (hl : args.length ≤ 12) (h : c167_9.wp Tryz.prog (RetQ [.t 4] R) (init args) σ) : ACalls Tryz.prog 167 args σ R := acalls_of Tryz.func167 c167_ok hl h
end Go.A
namespace Go.A
open Go.Proofs
set_option maxRecDepth 100000
set_option linter.unusedSimpArgs false
set_option linter.unusedVariables false
def atP (l : List UInt8) (i : Nat) : Int := match l[i]? with
  | some c => c.toNat
  | none => 0
theorem atP_bd (l : List UInt8) (i : Nat) : 0 ≤ atP l i ∧ atP l i ≤ 255 := by
  unfold atP
  split
  · rename_i c _; have := c.toNat_lt; omega
  · omega
theorem at_ok (l : List UInt8) (i : Nat) (hl : l.length ≤ 9223372036854775807) (hi : i ≤ l.length) : Pure Tryz.prog 167 [.str l, .int .i64 i] (.int .u8 (atP l i)) := by
  intro σ
  refine a167 (by simp) ?_
  unfold atP
  by_cases hlt : i < l.length
  · have hidx : l[i]? = some (l[i]'hlt) := List.getElem?_eq_getElem hlt
    rw [hidx]
    simp (disch := first | assumption | omega | (simp only [List.length_append, List.length_cons, List.length_nil]; omega)) only [go_sem, reduceCtorEq, Nat.reduceEqDiff, ↓reduceIte, hidx]
    exact retC_by (Drop.refl _) (.refl _) ⟨rfl, rfl⟩
  · rw [List.getElem?_eq_none (by omega)]
    simp (disch := first | assumption | omega | (simp only [List.length_append, List.length_cons, List.length_nil]; omega)) only [go_sem, reduceCtorEq, Nat.reduceEqDiff, ↓reduceIte]
    exact retC_by (Drop.refl _) (.refl _) ⟨rfl, rfl⟩
def runL (p : UInt8 → Bool) : List UInt8 → Nat
  | [] => 0
  | c :: cs => if p c then runL p cs + 1 else 0
theorem runL_le (p : UInt8 → Bool) : ∀ l, runL p l ≤ l.length
  | [] => Nat.le_refl _
  | c :: cs => by
    have := runL_le p cs
    unfold runL
    split <;> simp <;> omega
def isL (c : UInt8) : Bool := decide (0 < letterP c.toNat)
def isD (c : UInt8) : Bool := decide (48 ≤ c.toNat ∧ c.toNat ≤ 57)
def numF : Int → List UInt8 → Int
  | n, [] => n
  | n, c :: cs => if isD c then numF (min (10 * n + (c.toNat - 48)) 3001) cs else n
def readQ (l : List UInt8) (i : Nat) (col : Int) (ar ac : Bool) : Ref × Int :=
  if numF 0 (l.drop i) < 1 ∨ 3000 < numF 0 (l.drop i) ∨ atP l i = 48 ∨ 0 < letterP (atP l (i + runL isD (l.drop i))) ∨ atP l (i + runL isD (l.drop i)) = 95 then (.zero, 0)
  else (⟨numF 0 (l.drop i) - 1, col, ar, ac⟩, (i + runL isD (l.drop i) : Nat))
set_option maxHeartbeats 1000000 in
theorem read2 (l : List UInt8) (hl : l.length ≤ 9223372036854775000) (σ : ASt) (b0 b1 : Nat) (hb0 : σ b0 = none) (hb1 : σ b1 = none) (n1 : b0 ≠ b1) (i2 : Nat) (hi2 : i2 ≤ l.length) (col : Int) (ar ac : Bool) (q : Ref × Int) (hq : readQ l i2 col ar ac = q)
    (a : AFr) (h0 : a 0 = .str l) (h2 : a 2 = .ptr b0 0) (h4 : a 4 = .ptr b1 0) (h5 : a 5 = .int .i64 i2) (h7 : a 7 = .int .i64 col) :
    ACode.wp Tryz.prog c163_52 (RetQ [.c 2 (some 4), .t 3] fun v σ' => v = .tuple [refAV q.1, .int .i64 q.2] ∧ σ' = σ) a
      ((σ.set b0 (some (.obj [.int .i64 0, .int .i64 0, .bool false, .bool false]))).set b1 (some (.obj [.int .i64 0, .int .i64 0, .bool ar, .bool ac]))) := by
  have n2 : b1 ≠ b0 := Ne.symm n1
  obtain ⟨F, hF⟩ : ∃ F, F = ACode.wp Tryz.prog c163_50 := ⟨_, rfl⟩
  have fin : ∀ (i : Nat) (n : Int) (a : AFr), i2 ≤ i → i ≤ l.length → 0 ≤ n → n ≤ 3001 → (n = 0 ∨ i2 < i) → i2 + runL isD (l.drop i2) = i → numF 0 (l.drop i2) = n →
      a 0 = .str l → a 2 = .ptr b0 0 → a 4 = .ptr b1 0 → a 5 = .int .i64 i → a 7 = .int .i64 col → a 9 = .int .i64 n → a 10 = .int .i64 i2 →
      F (RetQ [.c 2 (some 4), .t 3] fun v σ' => v = .tuple [refAV q.1, .int .i64 q.2] ∧ σ' = σ) a
        ((σ.set b0 (some (.obj [.int .i64 0, .int .i64 0, .bool false, .bool false]))).set b1 (some (.obj [.int .i64 0, .int .i64 0, .bool ar, .bool ac]))) := by
    rw [hF]
    intro i n a hi hil hn0 hn1 hni hrun hnum h0 h2 h4 h5 h7 h9 h10
    unfold readQ at hq
    rw [hrun, hnum] at hq
    by_cases hn : n < 1
    · rw [if_pos (.inl hn)] at hq
      subst hq
      repeat' (first | (simp (disch := first | assumption | omega | (simp only [List.length_append, List.length_cons, List.length_nil]; omega)) only [go_sem, Nat.reduceEqDiff, Nat.reduceAdd, Nat.reduceLeDiff, ↓reduceIte, Bool.true_and, h2, h9, hn, refAV]) | with_reducible refine gC_d (fun h => ?_) (fun h => ?_) | with_reducible refine gC_dn (fun h => ?_) (fun h => ?_) | with_reducible refine condC_d (fun h => ?_) (fun h => ?_) | with_reducible refine condC_n (fun h => ?_) (fun h => ?_) | with_reducible refine condC_b (fun h => ?_) (fun h => ?_) | with_reducible refine boxC_by ?_ fun b hb => ?_)
      all_goals exact retC_by (by repeat' (first | exact Drop.refl _ | with_reducible refine Drop.off ?_ (by assumption))) (.refl _) ⟨rfl, rfl⟩
    · have hidx : l[i2]? = some (l[i2]'(by omega)) := List.getElem?_eq_getElem (by omega)
      obtain ⟨c, hc⟩ : ∃ c, l[i2]'(by omega) = c := ⟨_, rfl⟩
      rw [hc] at hidx
      have hat : atP l i2 = c.toNat := by unfold atP; rw [hidx]
      rw [hat] at hq
      have hb := atP_bd l i
      repeat' (first | (simp (disch := first | assumption | omega | (simp only [List.length_append, List.length_cons, List.length_nil]; omega)) only [go_sem, reduceCtorEq, Nat.reduceEqDiff, Nat.reduceAdd, Nat.reduceLeDiff, ↓reduceIte, Bool.true_and, h0, h2, h4, h5, h7, h9, h10, hn, hidx, refAV]) | refine (at_ok l i (by omega) hil).use ?_ | refine (letter_ok _ hb.1 hb.2).use ?_ | with_reducible refine gC_d (fun h => ?_) (fun h => ?_) | with_reducible refine gC_dn (fun h => ?_) (fun h => ?_) | with_reducible refine condC_d (fun h => ?_) (fun h => ?_) | with_reducible refine condC_n (fun h => ?_) (fun h => ?_) | with_reducible refine condC_b (fun h => ?_) (fun h => ?_) | with_reducible refine boxC_by ?_ fun b hb => ?_)
      all_goals first
        | (rw [if_pos (by omega)] at hq
           subst hq
           exact retC_by (by repeat' (first | exact Drop.refl _ | with_reducible refine Drop.off ?_ (by assumption))) (.refl _) ⟨rfl, rfl⟩)
        | (rw [if_neg (by omega)] at hq
           subst hq
           exact retC_by (by repeat' (first | exact Drop.refl _ | with_reducible refine Drop.off ?_ (by assumption))) (.refl _) ⟨rfl, rfl⟩)
  simp (disch := first | assumption | omega | (simp only [List.length_append, List.length_cons, List.length_nil]; omega)) only [go_sem, Nat.reduceEqDiff, ↓reduceIte, h5]
  rw [← hF]
  refine wp_loop_by (fun (i : Nat × Int) a σ' => i2 ≤ i.1 ∧ i.1 ≤ l.length ∧ 0 ≤ i.2 ∧ i.2 ≤ 3001 ∧ (i.2 = 0 ∨ i2 < i.1) ∧ i2 + runL isD (l.drop i2) = i.1 + runL isD (l.drop i.1) ∧ numF 0 (l.drop i2) = numF i.2 (l.drop i.1) ∧
    a 0 = .str l ∧ a 2 = .ptr b0 0 ∧ a 4 = .ptr b1 0 ∧ a 5 = .int .i64 i.1 ∧ a 7 = .int .i64 col ∧ a 9 = .int .i64 i.2 ∧ a 10 = .int .i64 i2 ∧
    σ' = (σ.set b0 (some (.obj [.int .i64 0, .int .i64 0, .bool false, .bool false]))).set b1 (some (.obj [.int .i64 0, .int .i64 0, .bool ar, .bool ac]))) (fun i => l.length - i.1) (i2, 0)
    (Dr.now ⟨Nat.le_refl _, hi2, by simp, by simp, .inl rfl, rfl, rfl, ?_, ?_, ?_, ?_, ?_, ?_, ?_, rfl⟩) ?_
  · simp (disch := first | assumption | omega | (simp only [List.length_append, List.length_cons, List.length_nil]; omega)) only [go_sem, reduceCtorEq, ↓reduceIte, h0]
  · simp (disch := first | assumption | omega | (simp only [List.length_append, List.length_cons, List.length_nil]; omega)) only [go_sem, Nat.reduceEqDiff, ↓reduceIte, h2]
  · simp (disch := first | assumption | omega | (simp only [List.length_append, List.length_cons, List.length_nil]; omega)) only [go_sem, Nat.reduceEqDiff, ↓reduceIte, h4]
  · simp (disch := first | assumption | omega | (simp only [List.length_append, List.length_cons, List.length_nil]; omega)) only [go_sem, Nat.reduceEqDiff, ↓reduceIte, h5]
  · simp (disch := first | assumption | omega | (simp only [List.length_append, List.length_cons, List.length_nil]; omega)) only [go_sem, Nat.reduceEqDiff, ↓reduceIte, h7]
  · simp (disch := first | assumption | omega | (simp only [List.length_append, List.length_cons, List.length_nil]; omega)) only [go_sem, Nat.reduceEqDiff, ↓reduceIte]
  · simp (disch := first | assumption | omega | (simp only [List.length_append, List.length_cons, List.length_nil]; omega)) only [go_sem, ↓reduceIte]
  clear h0 h2 h4 h5 h7
  rintro ⟨i, n⟩ a σ1 ⟨hi, hil, hn0, hn1, hni, hrun, hnum, h0, h2, h4, h5, h7, h9, h10, rfl⟩
  dsimp only at hi hil hn0 hn1 hni hrun hnum h5 h9
  by_cases hlt : i < l.length
  · have hidx : l[i]? = some (l[i]'hlt) := List.getElem?_eq_getElem hlt
    obtain ⟨c, hc⟩ : ∃ c, l[i]'hlt = c := ⟨_, rfl⟩
    rw [hc] at hidx
    have hcb : (c.toNat : Int) ≤ 255 := by have := c.toNat_lt; omega
    rw [List.drop_eq_getElem_cons hlt, hc, runL] at hrun
    rw [List.drop_eq_getElem_cons hlt, hc, numF] at hnum
    have hat : atP l i = c.toNat := by unfold atP; rw [hidx]
    by_cases hd : 48 ≤ (c.toNat : Int) ∧ (c.toNat : Int) ≤ 57
    · have hD : isD c = true := by unfold isD; simp; omega
      rw [if_pos hD] at hrun hnum
      have hd1 := hd.1
      have hd2 := hd.2
      simp (disch := first | assumption | omega | (simp only [List.length_append, List.length_cons, List.length_nil]; omega)) only [go_sem, reduceCtorEq, Nat.reduceEqDiff, ↓reduceIte, h0, h5, h9, hidx, hd1, hd2]
      refine ⟨(i + 1, min (10 * n + (c.toNat - 48)) 3001), by dsimp only; omega, Dr.now ⟨by dsimp only; omega, by dsimp only; omega, by dsimp only; omega, by dsimp only; omega, by dsimp only; omega, by dsimp only; omega, hnum, ?_, ?_, ?_, ?_, ?_, ?_, ?_, rfl⟩⟩
      · simp (disch := first | assumption | omega | (simp only [List.length_append, List.length_cons, List.length_nil]; omega)) only [go_sem, reduceCtorEq, ↓reduceIte, h0]
      · simp (disch := first | assumption | omega | (simp only [List.length_append, List.length_cons, List.length_nil]; omega)) only [go_sem, Nat.reduceEqDiff, ↓reduceIte, h2]
      · simp (disch := first | assumption | omega | (simp only [List.length_append, List.length_cons, List.length_nil]; omega)) only [go_sem, Nat.reduceEqDiff, ↓reduceIte, h4]
      · simp (disch := first | assumption | omega | (simp only [List.length_append, List.length_cons, List.length_nil]; omega)) only [go_sem, ↓reduceIte]
      · simp (disch := first | assumption | omega | (simp only [List.length_append, List.length_cons, List.length_nil]; omega)) only [go_sem, Nat.reduceEqDiff, ↓reduceIte, h7]
      · simp (disch := first | assumption | omega | (simp only [List.length_append, List.length_cons, List.length_nil]; omega)) only [go_sem, Nat.reduceEqDiff, ↓reduceIte]
      · simp (disch := first | assumption | omega | (simp only [List.length_append, List.length_cons, List.length_nil]; omega)) only [go_sem, Nat.reduceEqDiff, ↓reduceIte, h10]
    · have hD : ¬ isD c = true := by unfold isD; simp; omega
      rw [if_neg hD] at hrun hnum
      repeat' (first | (simp (disch := first | assumption | omega | (simp only [List.length_append, List.length_cons, List.length_nil]; omega)) only [go_sem, reduceCtorEq, Nat.reduceEqDiff, ↓reduceIte, h0, h5, hidx]) | with_reducible refine gC_d (fun h => ?_) (fun h => ?_) | with_reducible refine gC_dn (fun h => ?_) (fun h => ?_) | with_reducible refine condC_d (fun h => ?_) (fun h => ?_) | with_reducible refine condC_n (fun h => ?_) (fun h => ?_) | with_reducible refine condC_b (fun h => ?_) (fun h => ?_) | with_reducible refine boxC_by ?_ fun b hb => ?_)
      all_goals first | (exfalso; omega) | skip
      all_goals refine fin i n _ hi hil hn0 hn1 hni (by omega) hnum ?_ ?_ ?_ ?_ ?_ ?_ ?_ <;> simp (disch := first | assumption | omega | (simp only [List.length_append, List.length_cons, List.length_nil]; omega)) only [go_sem, reduceCtorEq, Nat.reduceEqDiff, ↓reduceIte, h0, h2, h4, h5, h7, h9, h10]
  · have e : l.drop i = [] := List.drop_eq_nil_of_le (by omega)
    rw [e, runL] at hrun
    rw [e, numF] at hnum
    simp (disch := first | assumption | omega | (simp only [List.length_append, List.length_cons, List.length_nil]; omega)) only [go_sem, reduceCtorEq, Nat.reduceEqDiff, ↓reduceIte, h0, h5]
    refine fin i n _ hi hil hn0 hn1 hni (by omega) hnum ?_ ?_ ?_ ?_ ?_ ?_ ?_ <;> simp (disch := first | assumption | omega | (simp only [List.length_append, List.length_cons, List.length_nil]; omega)) only [go_sem, reduceCtorEq, Nat.reduceEqDiff, ↓reduceIte, h0, h2, h4, h5, h7, h9, h10]
def readR (l : List UInt8) (i : Nat) (ac : Bool) : Ref × Int :=
  if (columnP ((l.take (i + runL isL (l.drop i))).drop i)).2 = false then (.zero, 0)
  else if atP l (i + runL isL (l.drop i)) = 36 then readQ l (i + runL isL (l.drop i) + 1) (columnP ((l.take (i + runL isL (l.drop i))).drop i)).1 true ac
  else readQ l (i + runL isL (l.drop i)) (columnP ((l.take (i + runL isL (l.drop i))).drop i)).1 false ac
set_option maxHeartbeats 1000000 in
theorem read1 (l : List UInt8) (hl : l.length ≤ 9223372036854775000) (σ : ASt) (b0 b1 : Nat) (hb0 : σ b0 = none) (hb1 : σ b1 = none) (n1 : b0 ≠ b1) (i0 : Nat) (hi0 : i0 ≤ l.length) (ac : Bool) (q : Ref × Int) (hq : readR l i0 ac = q)
    (a : AFr) (h0 : a 0 = .str l) (h2 : a 2 = .ptr b0 0) (h4 : a 4 = .ptr b1 0) (h5 : a 5 = .int .i64 i0) :
    ACode.wp Tryz.prog c163_57 (RetQ [.c 2 (some 4), .t 3] fun v σ' => v = .tuple [refAV q.1, .int .i64 q.2] ∧ σ' = σ) a
      ((σ.set b0 (some (.obj [.int .i64 0, .int .i64 0, .bool false, .bool false]))).set b1 (some (.obj [.int .i64 0, .int .i64 0, .bool false, .bool ac]))) := by
  have n2 : b1 ≠ b0 := Ne.symm n1
  obtain ⟨F2, hF2⟩ : ∃ F, F = ACode.wp Tryz.prog c163_52 := ⟨_, rfl⟩
  obtain ⟨F3, hF3⟩ : ∃ F, F = ACode.wp Tryz.prog c163_53 := ⟨_, rfl⟩
  obtain ⟨F4, hF4⟩ : ∃ F, F = ACode.wp Tryz.prog c163_54 := ⟨_, rfl⟩
  obtain ⟨F5, hF5⟩ : ∃ F, F = ACode.wp Tryz.prog c163_55 := ⟨_, rfl⟩
  have fin : ∀ (i : Nat) (a : AFr), i0 ≤ i → i ≤ l.length → i0 + runL isL (l.drop i0) = i → a 0 = .str l → a 2 = .ptr b0 0 → a 4 = .ptr b1 0 → a 5 = .int .i64 i → a 6 = .int .i64 i0 →
      F5 (RetQ [.c 2 (some 4), .t 3] fun v σ' => v = .tuple [refAV q.1, .int .i64 q.2] ∧ σ' = σ) a
        ((σ.set b0 (some (.obj [.int .i64 0, .int .i64 0, .bool false, .bool false]))).set b1 (some (.obj [.int .i64 0, .int .i64 0, .bool false, .bool ac]))) := by
    intro i a hi hil hrun h0 h2 h4 h5 h6
    unfold readR at hq
    rw [hrun] at hq
    obtain ⟨C, hC⟩ : ∃ C, columnP ((l.take i).drop i0) = C := ⟨_, rfl⟩
    rw [hC] at hq
    obtain ⟨col, ok⟩ := C
    rw [hF5, c163_55_wp, wp_seq', ← hF4]
    simp (disch := first | assumption | omega | (simp only [List.length_append, List.length_cons, List.length_nil]; omega)) only [go_sem, Nat.reduceEqDiff, ↓reduceIte, h0, h5, h6]
    refine (column_ok ((l.take i).drop i0) (by simp; omega)).use ?_
    rw [hC]
    simp (disch := first | assumption | omega | (simp only [List.length_append, List.length_cons, List.length_nil]; omega)) only [go_sem, Nat.reduceEqDiff, ↓reduceIte]
    rw [hF4, c163_54_wp, wp_seq', ← hF3]
    cases ok
    · rw [if_pos rfl] at hq
      subst hq
      simp (disch := first | assumption | omega | (simp only [List.length_append, List.length_cons, List.length_nil]; omega)) only [go_sem, Nat.reduceEqDiff, Nat.reduceAdd, Nat.reduceLeDiff, ↓reduceIte, Bool.true_and, h2, refAV]
      exact retC_by (by repeat' (first | exact Drop.refl _ | with_reducible refine Drop.off ?_ (by assumption))) (.refl _) ⟨rfl, rfl⟩
    · rw [if_neg (by simp)] at hq
      simp (disch := first | assumption | omega | (simp only [List.length_append, List.length_cons, List.length_nil]; omega)) only [go_sem, ↓reduceIte]
      rw [hF3, c163_53_wp, wp_seq', ← hF2]
      by_cases hlt : i < l.length
      · have hidx : l[i]? = some (l[i]'hlt) := List.getElem?_eq_getElem hlt
        obtain ⟨c, hc⟩ : ∃ c, l[i]'hlt = c := ⟨_, rfl⟩
        rw [hc] at hidx
        have hat : atP l i = c.toNat := by unfold atP; rw [hidx]
        rw [hat] at hq
        by_cases h36 : (c.toNat : Int) = 36
        · rw [if_pos h36] at hq
          simp (disch := first | assumption | omega | (simp only [List.length_append, List.length_cons, List.length_nil]; omega)) only [go_sem, reduceCtorEq, Nat.reduceEqDiff, Nat.reduceAdd, Nat.reduceLeDiff, ↓reduceIte, Bool.true_and, h0, h4, h5, hidx, h36, ASt.set_set]
          rw [hF2]
          refine read2 l hl σ b0 b1 hb0 hb1 n1 (i + 1) (by omega) col true ac q hq _ ?_ ?_ ?_ ?_ ?_ <;> simp (disch := first | assumption | omega | (simp only [List.length_append, List.length_cons, List.length_nil]; omega)) only [go_sem, reduceCtorEq, Nat.reduceEqDiff, ↓reduceIte, h0, h2, h4]
        · rw [if_neg h36] at hq
          simp (disch := first | assumption | omega | (simp only [List.length_append, List.length_cons, List.length_nil]; omega)) only [go_sem, reduceCtorEq, Nat.reduceEqDiff, ↓reduceIte, h0, h5, hidx, h36]
          rw [hF2]
          refine read2 l hl σ b0 b1 hb0 hb1 n1 i (by omega) col false ac q hq _ ?_ ?_ ?_ ?_ ?_ <;> simp (disch := first | assumption | omega | (simp only [List.length_append, List.length_cons, List.length_nil]; omega)) only [go_sem, reduceCtorEq, Nat.reduceEqDiff, ↓reduceIte, h0, h2, h4, h5]
      · have hat : atP l i = 0 := by unfold atP; rw [List.getElem?_eq_none (by omega)]
        rw [hat, if_neg (by omega)] at hq
        simp (disch := first | assumption | omega | (simp only [List.length_append, List.length_cons, List.length_nil]; omega)) only [go_sem, reduceCtorEq, Nat.reduceEqDiff, ↓reduceIte, h0, h5]
        rw [hF2]
        refine read2 l hl σ b0 b1 hb0 hb1 n1 i (by omega) col false ac q hq _ ?_ ?_ ?_ ?_ ?_ <;> simp (disch := first | assumption | omega | (simp only [List.length_append, List.length_cons, List.length_nil]; omega)) only [go_sem, reduceCtorEq, Nat.reduceEqDiff, ↓reduceIte, h0, h2, h4, h5]
  rw [c163_57_wp, wp_seq']
  simp (disch := first | assumption | omega | (simp only [List.length_append, List.length_cons, List.length_nil]; omega)) only [go_sem, ↓reduceIte, h5]
  rw [← hF5]
  refine wp_loop_by (fun (i : Nat) a σ' => i0 ≤ i ∧ i ≤ l.length ∧ i0 + runL isL (l.drop i0) = i + runL isL (l.drop i) ∧ a 0 = .str l ∧ a 2 = .ptr b0 0 ∧ a 4 = .ptr b1 0 ∧ a 5 = .int .i64 i ∧ a 6 = .int .i64 i0 ∧
    σ' = (σ.set b0 (some (.obj [.int .i64 0, .int .i64 0, .bool false, .bool false]))).set b1 (some (.obj [.int .i64 0, .int .i64 0, .bool false, .bool ac]))) (fun i => l.length - i) i0
    (Dr.now ⟨Nat.le_refl _, hi0, rfl, ?_, ?_, ?_, ?_, ?_, rfl⟩) ?_
  · simp (disch := first | assumption | omega | (simp only [List.length_append, List.length_cons, List.length_nil]; omega)) only [go_sem, reduceCtorEq, ↓reduceIte, h0]
  · simp (disch := first | assumption | omega | (simp only [List.length_append, List.length_cons, List.length_nil]; omega)) only [go_sem, Nat.reduceEqDiff, ↓reduceIte, h2]
  · simp (disch := first | assumption | omega | (simp only [List.length_append, List.length_cons, List.length_nil]; omega)) only [go_sem, Nat.reduceEqDiff, ↓reduceIte, h4]
  · simp (disch := first | assumption | omega | (simp only [List.length_append, List.length_cons, List.length_nil]; omega)) only [go_sem, Nat.reduceEqDiff, ↓reduceIte, h5]
  · simp (disch := first | assumption | omega | (simp only [List.length_append, List.length_cons, List.length_nil]; omega)) only [go_sem, ↓reduceIte]
  clear h0 h2 h4 h5
  rintro i a σ1 ⟨hi, hil, hrun, h0, h2, h4, h5, h6, rfl⟩
  by_cases hlt : i < l.length
  · have hidx : l[i]? = some (l[i]'hlt) := List.getElem?_eq_getElem hlt
    obtain ⟨c, hc⟩ : ∃ c, l[i]'hlt = c := ⟨_, rfl⟩
    rw [hc] at hidx
    have hcb : (c.toNat : Int) ≤ 255 := by have := c.toNat_lt; omega
    rw [List.drop_eq_getElem_cons hlt, hc, runL] at hrun
    simp (disch := first | assumption | omega | (simp only [List.length_append, List.length_cons, List.length_nil]; omega)) only [go_sem, reduceCtorEq, Nat.reduceEqDiff, ↓reduceIte, h0, h5, hidx]
    refine (letter_ok c.toNat (by omega) hcb).use ?_
    by_cases hL : 0 < letterP c.toNat
    · rw [if_pos (by unfold isL; simpa using hL)] at hrun
      simp (disch := first | assumption | omega | (simp only [List.length_append, List.length_cons, List.length_nil]; omega)) only [go_sem, Nat.reduceEqDiff, ↓reduceIte, h5, hL]
      refine ⟨i + 1, by dsimp only; omega, Dr.now ⟨by omega, by omega, by omega, ?_, ?_, ?_, ?_, ?_, rfl⟩⟩
      · simp (disch := first | assumption | omega | (simp only [List.length_append, List.length_cons, List.length_nil]; omega)) only [go_sem, reduceCtorEq, ↓reduceIte, h0]
      · simp (disch := first | assumption | omega | (simp only [List.length_append, List.length_cons, List.length_nil]; omega)) only [go_sem, Nat.reduceEqDiff, ↓reduceIte, h2]
      · simp (disch := first | assumption | omega | (simp only [List.length_append, List.length_cons, List.length_nil]; omega)) only [go_sem, Nat.reduceEqDiff, ↓reduceIte, h4]
      · simp (disch := first | assumption | omega | (simp only [List.length_append, List.length_cons, List.length_nil]; omega)) only [go_sem, ↓reduceIte]
      · simp (disch := first | assumption | omega | (simp only [List.length_append, List.length_cons, List.length_nil]; omega)) only [go_sem, Nat.reduceEqDiff, ↓reduceIte, h6]
    · rw [if_neg (by unfold isL; simpa using hL)] at hrun
      simp (disch := first | assumption | omega | (simp only [List.length_append, List.length_cons, List.length_nil]; omega)) only [go_sem, Nat.reduceEqDiff, ↓reduceIte, hL]
      refine fin i _ hi hil (by omega) ?_ ?_ ?_ ?_ ?_ <;> simp (disch := first | assumption | omega | (simp only [List.length_append, List.length_cons, List.length_nil]; omega)) only [go_sem, reduceCtorEq, Nat.reduceEqDiff, ↓reduceIte, h0, h2, h4, h5, h6]
  · have e : l.drop i = [] := List.drop_eq_nil_of_le (by omega)
    rw [e, runL] at hrun
    simp (disch := first | assumption | omega | (simp only [List.length_append, List.length_cons, List.length_nil]; omega)) only [go_sem, reduceCtorEq, Nat.reduceEqDiff, ↓reduceIte, h0, h5]
    refine fin i _ hi hil (by omega) ?_ ?_ ?_ ?_ ?_ <;> simp (disch := first | assumption | omega | (simp only [List.length_append, List.length_cons, List.length_nil]; omega)) only [go_sem, reduceCtorEq, Nat.reduceEqDiff, ↓reduceIte, h0, h2, h4, h5, h6]
def readP (l : List UInt8) : Ref × Int := if atP l 0 = 36 then readR l 1 true else readR l 0 false
theorem read_ok (l : List UInt8) (hl : l.length ≤ 9223372036854775000) : Pure Tryz.prog 163 [.str l] (.tuple [refAV (readP l).1, .int .i64 (readP l).2]) := by
  intro σ
  obtain ⟨q, hq⟩ : ∃ q, readP l = q := ⟨_, rfl⟩
  rw [hq]
  unfold readP at hq
  refine a163 (by simp) ?_
  obtain ⟨F, hF⟩ : ∃ F, F = ACode.wp Tryz.prog c163_57 := ⟨_, rfl⟩
  obtain ⟨F8, hF8⟩ : ∃ F, F = ACode.wp Tryz.prog c163_58 := ⟨_, rfl⟩
  obtain ⟨F9, hF9⟩ : ∃ F, F = ACode.wp Tryz.prog c163_59 := ⟨_, rfl⟩
  obtain ⟨F0, hF0⟩ : ∃ F, F = ACode.wp Tryz.prog c163_60 := ⟨_, rfl⟩
  rw [c163_61_wp, wp_seq', ← hF0]
  simp (disch := first | assumption | omega | (simp only [List.length_append, List.length_cons, List.length_nil]; omega)) only [go_sem]
  refine allocC_by fun b0 hb0 => ?_
  simp (disch := first | assumption | omega | (simp only [List.length_append, List.length_cons, List.length_nil]; omega)) only [go_sem]
  rw [hF0, c163_60_wp, wp_seq', ← hF9]
  simp (disch := first | assumption | omega | (simp only [List.length_append, List.length_cons, List.length_nil]; omega)) only [go_sem]
  refine allocC_by fun b1 hb1 => ?_
  obtain ⟨n1, n2, hb3⟩ := set_none hb1
  simp (disch := first | assumption | omega | (simp only [List.length_append, List.length_cons, List.length_nil]; omega)) only [go_sem]
  rw [hF9, c163_59_wp, wp_seq', ← hF8]
  simp (disch := first | assumption | omega | (simp only [List.length_append, List.length_cons, List.length_nil]; omega)) only [go_sem]
  rw [hF8, c163_58_wp, wp_seq', ← hF]
  by_cases hlt : 0 < l.length
  · have hidx : l[0]? = some (l[0]'hlt) := List.getElem?_eq_getElem hlt
    obtain ⟨c, hc⟩ : ∃ c, l[0]'hlt = c := ⟨_, rfl⟩
    rw [hc] at hidx
    have hat : atP l 0 = c.toNat := by unfold atP; rw [hidx]
    have hlt' : (0 : Int) < l.length := by omega
    rw [hat] at hq
    by_cases h36 : (c.toNat : Int) = 36
    · rw [if_pos h36] at hq
      simp (disch := first | assumption | omega | (simp only [List.length_append, List.length_cons, List.length_nil]; omega)) only [go_sem, reduceCtorEq, Nat.reduceEqDiff, Nat.reduceAdd, Nat.reduceLeDiff, ↓reduceIte, Int.reduceAdd, Bool.true_and, hlt', hidx, h36, ASt.set_set]
      rw [hF]
      refine read1 l hl σ b0 b1 hb0 hb3 n2 1 (by omega) true q hq _ ?_ ?_ ?_ ?_ <;> simp (disch := first | assumption | omega | (simp only [List.length_append, List.length_cons, List.length_nil]; omega)) only [go_sem, reduceCtorEq, Nat.reduceEqDiff, ↓reduceIte]
    · rw [if_neg h36] at hq
      simp (disch := first | assumption | omega | (simp only [List.length_append, List.length_cons, List.length_nil]; omega)) only [go_sem, reduceCtorEq, Nat.reduceEqDiff, ↓reduceIte, hlt', hidx, h36]
      rw [hF]
      refine read1 l hl σ b0 b1 hb0 hb3 n2 0 (by omega) false q hq _ ?_ ?_ ?_ ?_ <;> simp (disch := first | assumption | omega | (simp only [List.length_append, List.length_cons, List.length_nil]; omega)) only [go_sem, reduceCtorEq, Nat.reduceEqDiff, ↓reduceIte]
  · have hat : atP l 0 = 0 := by unfold atP; rw [List.getElem?_eq_none (by omega)]
    have hlt' : ¬ (0 : Int) < l.length := by omega
    rw [hat, if_neg (by omega)] at hq
    simp (disch := first | assumption | omega | (simp only [List.length_append, List.length_cons, List.length_nil]; omega)) only [go_sem, reduceCtorEq, Nat.reduceEqDiff, ↓reduceIte, hlt']
    rw [hF]
    refine read1 l hl σ b0 b1 hb0 hb3 n2 0 (by omega) false q hq _ ?_ ?_ ?_ ?_ <;> simp (disch := first | assumption | omega | (simp only [List.length_append, List.length_cons, List.length_nil]; omega)) only [go_sem, reduceCtorEq, Nat.reduceEqDiff, ↓reduceIte]
end Go.A
namespace Go.A
open Go.Proofs
/-! 69: (tabular/addr.Area).Rect -/
/-! 90: (tabular/addr.Area).Norm -/
/-! 157: tabular/addr.Parse -/
def c157_0 : ACode := .ops [
 ⟨some 2, none, .e (.alloc [(.int .i64 0), (.int .i64 0), (.bool false), (.bool false)]), []⟩,
 ⟨some 3, none, .q (.mv (.v (.bool false))), []⟩]
def c157_1 : ACode := .ops [
 ⟨some 7, none, .q (.mv (.t 0)), []⟩,
 ⟨some 8, none, .e (.call 163 [(.t 7)]), []⟩,
 ⟨some 6, none, .q (.mv (.t 8)), []⟩,
 ⟨some 9, none, .q (.ext 0 (.t 6)), []⟩,
 ⟨some 10, none, .q (.ext 1 (.t 6)), []⟩,
 ⟨some 4, none, .e (.alloc [(.int .i64 0), (.int .i64 0), (.bool false), (.bool false)]), []⟩,
 ⟨none, none, .e (.store 4 (.t 4) (.t 9)), []⟩,
 ⟨some 5, none, .q (.mv (.t 10)), []⟩]
def c157_2 : ACode := .ops [
 ⟨some 11, none, .q (.mv (.t 5)), []⟩,
 ⟨some 12, none, .q (.bin .eql (.t 11) (.v (.int .i64 0))), []⟩,
 ⟨some 13, none, .q (.mv (.t 12)), []⟩,
 ⟨some 14, some (13, false), .q (.mv (.t 5)), []⟩,
 ⟨some 15, some (13, false), .q (.mv (.t 0)), []⟩,
 ⟨some 16, some (13, false), .q (.lenS (.t 15)), []⟩,
 ⟨some 17, some (13, false), .q (.bin .lss (.t 14) (.t 16)), []⟩,
 ⟨some 18, none, .q (.pick (.t 13) (.v (.bool true)) (.t 17)), []⟩]
def c157_3 : ACode := .ops [
 ⟨some 19, none, .q (.build [(.int .i64 0), (.int .i64 0), (.bool false), (.bool false)] []), []⟩,
 ⟨none, none, .e (.store 4 (.t 2) (.t 19)), []⟩,
 ⟨some 3, none, .q (.mv (.v (.bool false))), []⟩]
def c157_4 : ACode := .seq c157_3 .ret
def c157_5 : ACode := .cond (.t 18) c157_4 .skip
def c157_6 : ACode := .seq c157_2 c157_5
def c157_7 : ACode := .ops [
 ⟨some 20, none, .q (.ld (some 4) (.t 4)), []⟩,
 ⟨none, none, .e (.store 4 (.t 2) (.t 20)), []⟩,
 ⟨some 3, none, .q (.mv (.v (.bool true))), []⟩]
def c157_8 : ACode := .seq c157_7 .ret
def c157_9 : ACode := .seq c157_6 c157_8
def c157_10 : ACode := .seq c157_1 c157_9
def c157_11 : ACode := .seq c157_0 c157_10
@[go_sem] theorem c157_0_wp : type_of% (wp_of c157_0.eq_1) := wp_of c157_0.eq_1
@[go_sem] theorem c157_1_wp : type_of% (wp_of c157_1.eq_1) := wp_of c157_1.eq_1
@[go_sem] theorem c157_2_wp : type_of% (wp_of c157_2.eq_1) := wp_of c157_2.eq_1
@[go_sem] theorem c157_3_wp : type_of% (wp_of c157_3.eq_1) := wp_of c157_3.eq_1
@[go_sem] theorem c157_4_wp : type_of% (wp_of c157_4.eq_1) := wp_of c157_4.eq_1
@[go_sem] theorem c157_5_wp : type_of% (wp_of c157_5.eq_1) := wp_of c157_5.eq_1
@[go_sem] theorem c157_6_wp : type_of% (wp_of c157_6.eq_1) := wp_of c157_6.eq_1
@[go_sem] theorem c157_7_wp : type_of% (wp_of c157_7.eq_1) := wp_of c157_7.eq_1
@[go_sem] theorem c157_8_wp : type_of% (wp_of c157_8.eq_1) := wp_of c157_8.eq_1
@[go_sem] theorem c157_9_wp : type_of% (wp_of c157_9.eq_1) := wp_of c157_9.eq_1
@[go_sem] theorem c157_10_wp : type_of% (wp_of c157_10.eq_1) := wp_of c157_10.eq_1
@[go_sem] theorem c157_11_wp : type_of% (wp_of c157_11.eq_1) := wp_of c157_11.eq_1
def c157 : AFn := ⟨21, [.c 2 (some 4), .t 3], c157_11⟩
set_option maxRecDepth 100000 in
theorem c157_ok : compF Tryz.prog Tryz.f157 = some c157 := by kernel_rfl
theorem a157 {args : List AV} {σ : ASt} {R : AV → ASt → Prop} (hl : args.length ≤ 21) (h : c157_11.wp Tryz.prog (RetQ [.c 2 (some 4), .t 3] R) (init args) σ) : ACalls Tryz.prog 157 args σ R := acalls_of Tryz.func157 c157_ok hl h
end Go.A
namespace Go.A
open Go.Proofs
set_option maxRecDepth 100000
set_option linter.unusedSimpArgs false
set_option linter.unusedVariables false
def parseP (l : List UInt8) : Ref × Bool := if (readP l).2 = 0 ∨ (readP l).2 < l.length then (.zero, false) else ((readP l).1, true)
theorem parse_ok (l : List UInt8) (hl : l.length ≤ 9223372036854775000) : Pure Tryz.prog 157 [.str l] (.tuple [refAV (parseP l).1, .bool (parseP l).2]) := by
  intro σ
  obtain ⟨q, hq⟩ : ∃ q, parseP l = q := ⟨_, rfl⟩
  rw [hq]
  unfold parseP at hq
  obtain ⟨R, hR⟩ : ∃ R, readP l = R := ⟨_, rfl⟩
  rw [hR] at hq
  obtain ⟨⟨row, col, ar, ac⟩, n⟩ := R
  dsimp only at hq
  refine a157 (by simp) ?_
  simp (disch := first | assumption | omega | (simp only [List.length_append, List.length_cons, List.length_nil]; omega)) only [go_sem]
  refine allocC_by fun b0 hb0 => ?_
  simp (disch := first | assumption | omega | (simp only [List.length_append, List.length_cons, List.length_nil]; omega)) only [go_sem, reduceCtorEq, ↓reduceIte]
  refine (read_ok l hl).use ?_
  rw [hR]
  simp (disch := first | assumption | omega | (simp only [List.length_append, List.length_cons, List.length_nil]; omega)) only [go_sem, Nat.reduceEqDiff, ↓reduceIte, refAV]
  refine allocC_by fun b1 hb1 => ?_
  obtain ⟨n1, n2, hb3⟩ := set_none hb1
  repeat' (first | (simp (disch := first | assumption | omega | (simp only [List.length_append, List.length_cons, List.length_nil]; omega)) only [go_sem, reduceCtorEq, Nat.reduceEqDiff, Nat.reduceAdd, Nat.reduceLeDiff, ↓reduceIte, Bool.true_and]) | with_reducible refine gC_d (fun h => ?_) (fun h => ?_) | with_reducible refine gC_dn (fun h => ?_) (fun h => ?_) | with_reducible refine condC_d (fun h => ?_) (fun h => ?_) | with_reducible refine condC_n (fun h => ?_) (fun h => ?_) | with_reducible refine condC_b (fun h => ?_) (fun h => ?_) | with_reducible refine boxC_by ?_ fun b hb => ?_)
  all_goals first
    | (rw [if_pos (by omega)] at hq
       subst hq
       exact retC_by (by repeat' (first | exact Drop.refl _ | with_reducible refine Drop.off ?_ (by assumption))) (.refl _) ⟨rfl, rfl⟩)
    | (rw [if_neg (by omega)] at hq
       subst hq
       exact retC_by (by repeat' (first | exact Drop.refl _ | with_reducible refine Drop.off ?_ (by assumption))) (.refl _) ⟨rfl, rfl⟩)
def areaAV (a b : Ref) : AV := .agg [.int .i64 a.row, .int .i64 a.col, .bool a.absRow, .bool a.absCol, .int .i64 b.row, .int .i64 b.col, .bool b.absRow, .bool b.absCol]
end Go.A
namespace Go.A
open Go.Proofs
set_option maxRecDepth 100000
set_option linter.unusedSimpArgs false
set_option linter.unusedVariables false
theorem lettersF_len : ∀ k n, (lettersF k n).length ≤ k
  | 0, n => Nat.le_refl _
  | k + 1, n => by
    unfold lettersF
    split
    · exact Nat.zero_le _
    · have := lettersF_len k ((n - 1) / 26)
      simp; omega
theorem letters_len (c : Int) : (lettersP c).length ≤ 4 := by
  unfold lettersP
  split
  · exact Nat.zero_le _
  · exact lettersF_len _ _
end Go.A
namespace Go.A
open Go.Proofs
set_option maxRecDepth 100000
set_option linter.unusedSimpArgs false
set_option linter.unusedVariables false
def digF : Nat → Nat → List UInt8
  | 0, _ => []
  | k + 1, n => if n < 10 then [UInt8.ofNat (48 + n)] else digF k (n / 10) ++ [UInt8.ofNat (48 + n % 10)]
theorem digF_eq : ∀ (k n : Nat), n < 10 ^ (k + 1) → Lib.decDigits n = digF (k + 1) n
  | 0, n, h => by
    rw [Lib.decDigits, dif_pos (by omega)]
    unfold digF
    rw [if_pos (by omega)]
  | k + 1, n, h => by
    rw [Lib.decDigits]
    unfold digF
    by_cases h1 : n < 10
    · rw [dif_pos h1, if_pos h1]
    · rw [dif_neg h1, if_neg h1, digF_eq k (n / 10) (by rw [Nat.pow_succ] at h; omega)]
def numT (row : Int) : List UInt8 := digF 4 (row + 1).toNat
theorem itoa_num {row : Int} (h0 : 0 ≤ row) (h1 : row < 3000) : Lib.itoa (row + 1) = numT row := by
  unfold Lib.itoa numT
  rw [if_neg (by omega), digF_eq 3 _ (by omega)]
theorem num_all : (List.range 3000).all (fun i => decide (numF 0 (numT i) = (i : Int) + 1) && (numT i).all isD && decide (1 ≤ (numT i).length) && decide ((numT i).length ≤ 4) && decide (atP (numT i) 0 ≠ 48)) = true := by decide +kernel
theorem num_facts {row : Int} (h0 : 0 ≤ row) (h1 : row < 3000) : numF 0 (numT row) = row + 1 ∧ (∀ c ∈ numT row, isD c = true) ∧ 1 ≤ (numT row).length ∧ (numT row).length ≤ 4 ∧ atP (numT row) 0 ≠ 48 := by
  obtain ⟨i, rfl⟩ : ∃ i : Nat, row = i := ⟨row.toNat, by omega⟩
  have := List.all_eq_true.1 num_all i (List.mem_range.2 (by omega))
  simpa [and_assoc] using this
theorem let_all : (List.range 700).all (fun i => (lettersP i).all isL && decide (1 ≤ (lettersP i).length)) = true := by decide +kernel
theorem let_facts {col : Int} (h0 : 0 ≤ col) (h1 : col < 700) : (∀ c ∈ lettersP col, isL c = true) ∧ 1 ≤ (lettersP col).length := by
  obtain ⟨i, rfl⟩ : ∃ i : Nat, col = i := ⟨col.toNat, by omega⟩
  have := List.all_eq_true.1 let_all i (List.mem_range.2 (by omega))
  simpa using this
def dolP (b : Bool) : List UInt8 := if b then [36] else []
def textP (r : Ref) : List UInt8 := dolP r.absCol ++ lettersP r.col ++ dolP r.absRow ++ numT r.row
def Behind (x : List UInt8) : Prop := x = [] ∨ ∃ y, x = 58 :: y
theorem text_len {r : Ref} (hg : r.good = true) : 2 ≤ (textP r).length ∧ (textP r).length ≤ 10 := by
  simp only [Ref.good, decide_eq_true_eq] at hg
  obtain ⟨g1, g2, g3, g4⟩ := hg
  obtain ⟨l1, l2⟩ := let_facts g3 g4
  obtain ⟨n1, n2, n3, n4, n5⟩ := num_facts g1 g2
  have := letters_len r.col
  unfold textP dolP
  simp only [List.length_append]
  constructor
  · omega
  · split <;> split <;> simp <;> omega
end Go.A
namespace Go.A
open Go.Proofs
/-! 26: tabular/tabularlaw01.Cut -/
def c26_0 : ACode := .ops [
 ⟨some 4, none, .q (.mv (.v (.str []))), []⟩]
def c26_1 : ACode := .ops [
 ⟨some 5, none, .q (.mv (.t 0)), []⟩,
 ⟨some 6, none, .q (.lenS (.t 5)), []⟩,
 ⟨some 7, none, .q (.mv (.t 1)), []⟩,
 ⟨some 8, none, .q (.bin .gtr (.t 6) (.t 7)), []⟩]
def c26_2 : ACode := .ops [
 ⟨some 9, none, .q (.mv (.t 0)), []⟩,
 ⟨some 10, none, .q (.mv (.t 1)), []⟩,
 ⟨some 11, none, .q (.slto (true, 0) (.t 9) (.t 10)), []⟩,
 ⟨some 4, none, .q (.mv (.t 11)), []⟩]
def c26_3 : ACode := .seq c26_2 .ret
def c26_4 : ACode := .cond (.t 8) c26_3 .skip
def c26_5 : ACode := .seq c26_1 c26_4
def c26_6 : ACode := .ops [
 ⟨some 12, none, .q (.mv (.t 0)), []⟩,
 ⟨some 4, none, .q (.mv (.t 12)), []⟩]
def c26_7 : ACode := .seq c26_6 .ret
def c26_8 : ACode := .seq c26_5 c26_7
def c26_9 : ACode := .seq c26_0 c26_8
@[go_sem] theorem c26_0_wp : type_of% (wp_of c26_0.eq_1) := wp_of c26_0.eq_1
@[go_sem] theorem c26_1_wp : type_of% (wp_of c26_1.eq_1) := wp_of c26_1.eq_1
@[go_sem] theorem c26_2_wp : type_of% (wp_of c26_2.eq_1) := wp_of c26_2.eq_1
@[go_sem] theorem c26_3_wp : type_of% (wp_of c26_3.eq_1) := wp_of c26_3.eq_1
@[go_sem] theorem c26_4_wp : type_of% (wp_of c26_4.eq_1) := wp_of c26_4.eq_1
@[go_sem] theorem c26_5_wp : type_of% (wp_of c26_5.eq_1) := wp_of c26_5.eq_1
@[go_sem] theorem c26_6_wp : type_of% (wp_of c26_6.eq_1) := wp_of c26_6.eq_1
@[go_sem] theorem c26_7_wp : type_of% (wp_of c26_7.eq_1) := wp_of c26_7.eq_1
@[go_sem] theorem c26_8_wp : type_of% (wp_of c26_8.eq_1) := wp_of c26_8.eq_1
@[go_sem] theorem c26_9_wp : type_of% (wp_of c26_9.eq_1) := wp_of c26_9.eq_1
def c26 : AFn := ⟨13, [.t 4], c26_9⟩
set_option maxRecDepth 100000 in
theorem c26_ok : compF Tryz.prog Tryz.f26 = some c26 := by kernel_rfl
theorem a26 {args : List AV} {σ : ASt} {R : AV → ASt → Prop} (hl : args.length ≤ 13) (h : c26_9.wp Tryz.prog (RetQ [.t 4] R) (init args) σ) : ACalls Tryz.prog 26 args σ R := acalls_of Tryz.func26 c26_ok hl h
/-! 50: (tabular/deci.Dec).Whole -/
def c50_0 : ACode := .ops [
 ⟨some 2, none, .q (.mv (.v (.int .i64 0))), []⟩]
def c50_1 : ACode := .ops [
 ⟨some 3, none, .q (.mv (.t 0)), []⟩,
 ⟨some 4, none, .q (.bin .quo (.t 3) (.v (.int .i64 10000))), []⟩,
 ⟨some 2, none, .q (.mv (.t 4)), []⟩]
def c50_2 : ACode := .seq c50_1 .ret
def c50_3 : ACode := .seq c50_0 c50_2
@[go_sem] theorem c50_0_wp : type_of% (wp_of c50_0.eq_1) := wp_of c50_0.eq_1
@[go_sem] theorem c50_1_wp : type_of% (wp_of c50_1.eq_1) := wp_of c50_1.eq_1
@[go_sem] theorem c50_2_wp : type_of% (wp_of c50_2.eq_1) := wp_of c50_2.eq_1
@[go_sem] theorem c50_3_wp : type_of% (wp_of c50_3.eq_1) := wp_of c50_3.eq_1
def c50 : AFn := ⟨5, [.t 2], c50_3⟩
set_option maxRecDepth 100000 in
theorem c50_ok : compF Tryz.prog Tryz.f50 = some c50 := by kernel_rfl
theorem a50 {args : List AV} {σ : ASt} {R : AV → ASt → Prop} (hl : args.length ≤ 5) (h : c50_3.wp Tryz.prog (RetQ [.t 2] R) (init args) σ) : ACalls Tryz.prog 50 args σ R := acalls_of Tryz.func50 c50_ok hl h
/-! 57: (tabular/deci.Dec).Text -/
def c57_0 : ACode := .ops [
 ⟨some 2, none, .q (.mv (.v (.str []))), []⟩]
def c57_1 : ACode := .ops [
 ⟨some 6, none, .q (.mv (.t 0)), []⟩,
 ⟨some 7, none, .e (.call 82 [(.t 6)]), []⟩,
 ⟨some 3, none, .q (.mv (.t 7)), []⟩]
def c57_2 : ACode := .ops [
 ⟨some 8, none, .q (.mv (.t 3)), []⟩,
 ⟨some 9, none, .q (.bin .quo (.t 8) (.v (.int .u64 10000))), []⟩,
 ⟨some 10, none, .e (.call 83 [(.t 9), (.v (.int .i64 10))]), []⟩,
 ⟨some 4, none, .q (.mv (.t 10)), []⟩]
def c57_3 : ACode := .ops [
 ⟨some 11, none, .q (.mv (.t 3)), []⟩,
 ⟨some 12, none, .q (.bin .rem (.t 11) (.v (.int .u64 10000))), []⟩,
 ⟨some 5, none, .q (.mv (.t 12)), []⟩]
def c57_4 : ACode := .ops [
 ⟨some 13, none, .q (.mv (.t 5)), []⟩,
 ⟨some 14, none, .q (.bin .gtr (.t 13) (.v (.int .u64 0))), []⟩]
def c57_5 : ACode := .ops [
 ⟨some 15, none, .q (.mv (.t 4)), []⟩,
 ⟨some 16, none, .q (.mv (.t 5)), []⟩,
 ⟨some 17, none, .q (.bin .add (.v (.int .u64 10000)) (.t 16)), []⟩,
 ⟨some 18, none, .e (.call 83 [(.t 17), (.v (.int .i64 10))]), []⟩,
 ⟨some 19, none, .q (.slfrom (true, 0) (.t 18) (.v (.int .i64 1))), []⟩,
 ⟨some 20, none, .e (.call 84 [(.t 19), (.v (.str [48]))]), []⟩,
 ⟨some 21, none, .q (.bin .add (.v (.str [46])) (.t 20)), []⟩,
 ⟨some 22, none, .q (.bin .add (.t 15) (.t 21)), []⟩,
 ⟨some 4, none, .q (.mv (.t 22)), []⟩]
def c57_6 : ACode := .cond (.t 14) c57_5 .skip
def c57_7 : ACode := .seq c57_4 c57_6
def c57_8 : ACode := .seq c57_3 c57_7
def c57_9 : ACode := .ops [
 ⟨some 23, none, .q (.mv (.t 0)), []⟩,
 ⟨some 24, none, .q (.bin .lss (.t 23) (.v (.int .i64 0))), []⟩]
def c57_10 : ACode := .ops [
 ⟨some 25, none, .q (.mv (.t 4)), []⟩,
 ⟨some 26, none, .q (.bin .add (.v (.str [45])) (.t 25)), []⟩,
 ⟨some 2, none, .q (.mv (.t 26)), []⟩]
def c57_11 : ACode := .seq c57_10 .ret
def c57_12 : ACode := .cond (.t 24) c57_11 .skip
def c57_13 : ACode := .seq c57_9 c57_12
def c57_14 : ACode := .ops [
 ⟨some 27, none, .q (.mv (.t 4)), []⟩,
 ⟨some 2, none, .q (.mv (.t 27)), []⟩]
def c57_15 : ACode := .seq c57_14 .ret
def c57_16 : ACode := .seq c57_13 c57_15
def c57_17 : ACode := .seq c57_8 c57_16
def c57_18 : ACode := .seq c57_2 c57_17
def c57_19 : ACode := .seq c57_1 c57_18
def c57_20 : ACode := .seq c57_0 c57_19
@[go_sem] theorem c57_0_wp : type_of% (wp_of c57_0.eq_1) := wp_of c57_0.eq_1
@[go_sem] theorem c57_1_wp : type_of% (wp_of c57_1.eq_1) := wp_of c57_1.eq_1
@[go_sem] theorem c57_2_wp : type_of% (wp_of c57_2.eq_1) := wp_of c57_2.eq_1
@[go_sem] theorem c57_3_wp : type_of% (wp_of c57_3.eq_1) := wp_of c57_3.eq_1
@[go_sem] theorem c57_4_wp : type_of% (wp_of c57_4.eq_1) := wp_of c57_4.eq_1
@[go_sem] theorem c57_5_wp : type_of% (wp_of c57_5.eq_1) := wp_of c57_5.eq_1
@[go_sem] theorem c57_6_wp : type_of% (wp_of c57_6.eq_1) := wp_of c57_6.eq_1
@[go_sem] theorem c57_7_wp : type_of% (wp_of c57_7.eq_1) := wp_of c57_7.eq_1
@[go_sem] theorem c57_8_wp : type_of% (wp_of c57_8.eq_1) := wp_of c57_8.eq_1
@[go_sem] theorem c57_9_wp : type_of% (wp_of c57_9.eq_1) := wp_of c57_9.eq_1
@[go_sem] theorem c57_10_wp : type_of% (wp_of c57_10.eq_1) := wp_of c57_10.eq_1
@[go_sem] theorem c57_11_wp : type_of% (wp_of c57_11.eq_1) := wp_of c57_11.eq_1
@[go_sem] theorem c57_12_wp : type_of% (wp_of c57_12.eq_1) := wp_of c57_12.eq_1
@[go_sem] theorem c57_13_wp : type_of% (wp_of c57_13.eq_1) := wp_of c57_13.eq_1
@[go_sem] theorem c57_14_wp : type_of% (wp_of c57_14.eq_1) := wp_of c57_14.eq_1
@[go_sem] theorem c57_15_wp : type_of% (wp_of c57_15.eq_1) := wp_of c57_15.eq_1
@[go_sem] theorem c57_16_wp : type_of% (wp_of c57_16.eq_1) := wp_of c57_16.eq_1
@[go_sem] theorem c57_17_wp : type_of% (wp_of c57_17.eq_1) := wp_of c57_17.eq_1
@[go_sem] theorem c57_18_wp : type_of% (wp_of c57_18.eq_1) := wp_of c57_18.eq_1
@[go_sem] theorem c57_19_wp : type_of% (wp_of c57_19.eq_1) := wp_of c57_19.eq_1
@[go_sem] theorem c57_20_wp : type_of% (wp_of c57_20.eq_1) := wp_of c57_20.eq_1
def c57 : AFn := ⟨28, [.t 2], c57_20⟩
set_option maxRecDepth 100000 in
theorem c57_ok : compF Tryz.prog Tryz.f57 = some c57 := by kernel_rfl
theorem a57 {args : List AV} {σ : ASt} {R : AV → ASt → Prop} (hl : args.length ≤ 28) (h : c57_20.wp Tryz.prog (RetQ [.t 2] R) (init args) σ) : ACalls Tryz.prog 57 args σ R := acalls_of Tryz.func57 c57_ok hl h
/-! 82: tabular/deci.size -/
def c82_0 : ACode := .ops [
 ⟨some 2, none, .q (.mv (.v (.int .u64 0))), []⟩]
def c82_1 : ACode := .ops [
 ⟨some 3, none, .q (.mv (.t 0)), []⟩,
 ⟨some 4, none, .q (.bin .lss (.t 3) (.v (.int .i64 0))), []⟩]
def c82_2 : ACode := .ops [
 ⟨some 5, none, .q (.mv (.t 0)), []⟩,
 ⟨some 6, none, .q (.un .neg (.t 5)), []⟩,
 ⟨some 7, none, .q (.conv .u64 (.t 6)), []⟩,
 ⟨some 2, none, .q (.mv (.t 7)), []⟩]
def c82_3 : ACode := .seq c82_2 .ret
def c82_4 : ACode := .cond (.t 4) c82_3 .skip
def c82_5 : ACode := .seq c82_1 c82_4
def c82_6 : ACode := .ops [
 ⟨some 8, none, .q (.mv (.t 0)), []⟩,
 ⟨some 9, none, .q (.conv .u64 (.t 8)), []⟩,
 ⟨some 2, none, .q (.mv (.t 9)), []⟩]
def c82_7 : ACode := .seq c82_6 .ret
def c82_8 : ACode := .seq c82_5 c82_7
def c82_9 : ACode := .seq c82_0 c82_8
@[go_sem] theorem c82_0_wp : type_of% (wp_of c82_0.eq_1) := wp_of c82_0.eq_1
@[go_sem] theorem c82_1_wp : type_of% (wp_of c82_1.eq_1) := wp_of c82_1.eq_1
@[go_sem] theorem c82_2_wp : type_of% (wp_of c82_2.eq_1) := wp_of c82_2.eq_1
@[go_sem] theorem c82_3_wp : type_of% (wp_of c82_3.eq_1) := wp_of c82_3.eq_1
@[go_sem] theorem c82_4_wp : type_of% (wp_of c82_4.eq_1) := wp_of c82_4.eq_1
@[go_sem] theorem c82_5_wp : type_of% (wp_of c82_5.eq_1) := wp_of c82_5.eq_1
@[go_sem] theorem c82_6_wp : type_of% (wp_of c82_6.eq_1) := wp_of c82_6.eq_1
@[go_sem] theorem c82_7_wp : type_of% (wp_of c82_7.eq_1) := wp_of c82_7.eq_1
@[go_sem] theorem c82_8_wp : type_of% (wp_of c82_8.eq_1) := wp_of c82_8.eq_1
@[go_sem] theorem c82_9_wp : type_of% (wp_of c82_9.eq_1) := wp_of c82_9.eq_1
def c82 : AFn := ⟨10, [.t 2], c82_9⟩
set_option maxRecDepth 100000 in
theorem c82_ok : compF Tryz.prog Tryz.f82 = some c82 := by kernel_rfl
theorem a82 {args : List AV} {σ : ASt} {R : AV → ASt → Prop} (hl : args.length ≤ 10) (h : c82_9.wp Tryz.prog (RetQ [.t 2] R) (init args) σ) : ACalls Tryz.prog 82 args σ R := acalls_of Tryz.func82 c82_ok hl h
/-! 83: strconv.FormatUint -/
def c83_0 : ACode := .ops [
 ⟨some 4, none, .q (.mv (.v (.str []))), []⟩]
def c83_1 : ACode := .ops [
 ⟨some 5, none, .q (.mv (.t 0)), []⟩,
 ⟨some 6, none, .q (.mv (.t 1)), []⟩,
 ⟨some 7, none, .e (.call 98 [(.t 5), (.t 6)]), []⟩,
 ⟨some 4, none, .q (.mv (.t 7)), []⟩]
def c83_2 : ACode := .seq c83_1 .ret
def c83_3 : ACode := .seq c83_0 c83_2
@[go_sem] theorem c83_0_wp : type_of% (wp_of c83_0.eq_1) := wp_of c83_0.eq_1
@[go_sem] theorem c83_1_wp : type_of% (wp_of c83_1.eq_1) := wp_of c83_1.eq_1
@[go_sem] theorem c83_2_wp : type_of% (wp_of c83_2.eq_1) := wp_of c83_2.eq_1
@[go_sem] theorem c83_3_wp : type_of% (wp_of c83_3.eq_1) := wp_of c83_3.eq_1
def c83 : AFn := ⟨8, [.t 4], c83_3⟩
set_option maxRecDepth 100000 in
theorem c83_ok : compF Tryz.prog Tryz.f83 = some c83 := by kernel_rfl
theorem a83 {args : List AV} {σ : ASt} {R : AV → ASt → Prop} (hl : args.length ≤ 8) (h : c83_3.wp Tryz.prog (RetQ [.t 4] R) (init args) σ) : ACalls Tryz.prog 83 args σ R := acalls_of Tryz.func83 c83_ok hl h
/-! 92: (tabular/deci.Dec).IsInt -/
def c92_0 : ACode := .ops [
 ⟨some 2, none, .q (.mv (.v (.bool false))), []⟩]
def c92_1 : ACode := .ops [
 ⟨some 3, none, .q (.mv (.t 0)), []⟩,
 ⟨some 4, none, .q (.bin .rem (.t 3) (.v (.int .i64 10000))), []⟩,
 ⟨some 5, none, .q (.bin .eql (.t 4) (.v (.int .i64 0))), []⟩,
 ⟨some 2, none, .q (.mv (.t 5)), []⟩]
def c92_2 : ACode := .seq c92_1 .ret
def c92_3 : ACode := .seq c92_0 c92_2
@[go_sem] theorem c92_0_wp : type_of% (wp_of c92_0.eq_1) := wp_of c92_0.eq_1
@[go_sem] theorem c92_1_wp : type_of% (wp_of c92_1.eq_1) := wp_of c92_1.eq_1
@[go_sem] theorem c92_2_wp : type_of% (wp_of c92_2.eq_1) := wp_of c92_2.eq_1
@[go_sem] theorem c92_3_wp : type_of% (wp_of c92_3.eq_1) := wp_of c92_3.eq_1
def c92 : AFn := ⟨6, [.t 2], c92_3⟩
set_option maxRecDepth 100000 in
theorem c92_ok : compF Tryz.prog Tryz.f92 = some c92 := by kernel_rfl
theorem a92 {args : List AV} {σ : ASt} {R : AV → ASt → Prop} (hl : args.length ≤ 6) (h : c92_3.wp Tryz.prog (RetQ [.t 2] R) (init args) σ) : ACalls Tryz.prog 92 args σ R := acalls_of Tryz.func92 c92_ok hl h
/-! 93: tabular/deci.Good -/
def c93_0 : ACode := .ops [
 ⟨some 2, none, .q (.mv (.v (.bool false))), []⟩]
def c93_1 : ACode := .ops [
 ⟨some 3, none, .q (.mv (.t 0)), []⟩,
 ⟨some 4, none, .q (.bin .geq (.t 3) (.v (.int .i64 (-999999999999999999)))), []⟩,
 ⟨some 5, none, .q (.mv (.t 4)), []⟩,
 ⟨some 6, some (5, true), .q (.mv (.t 0)), []⟩,
 ⟨some 7, some (5, true), .q (.bin .leq (.t 6) (.v (.int .i64 999999999999999999))), []⟩,
 ⟨some 8, none, .q (.pick (.t 5) (.t 7) (.v (.bool false))), []⟩,
 ⟨some 2, none, .q (.mv (.t 8)), []⟩]
def c93_2 : ACode := .seq c93_1 .ret
def c93_3 : ACode := .seq c93_0 c93_2
@[go_sem] theorem c93_0_wp : type_of% (wp_of c93_0.eq_1) := wp_of c93_0.eq_1
@[go_sem] theorem c93_1_wp : type_of% (wp_of c93_1.eq_1) := wp_of c93_1.eq_1
@[go_sem] theorem c93_2_wp : type_of% (wp_of c93_2.eq_1) := wp_of c93_2.eq_1
@[go_sem] theorem c93_3_wp : type_of% (wp_of c93_3.eq_1) := wp_of c93_3.eq_1
def c93 : AFn := ⟨9, [.t 2], c93_3⟩
set_option maxRecDepth 100000 in
theorem c93_ok : compF Tryz.prog Tryz.f93 = some c93 := by kernel_rfl
theorem a93 {args : List AV} {σ : ASt} {R : AV → ASt → Prop} (hl : args.length ≤ 9) (h : c93_3.wp Tryz.prog (RetQ [.t 2] R) (init args) σ) : ACalls Tryz.prog 93 args σ R := acalls_of Tryz.func93 c93_ok hl h
/-! 155: strings.Cut -/
def c155_0 : ACode := .ops [
 ⟨some 4, none, .q (.mv (.v (.str []))), []⟩,
 ⟨some 5, none, .q (.mv (.v (.str []))), []⟩,
 ⟨some 6, none, .q (.mv (.v (.bool false))), []⟩]
def c155_1 : ACode := .ops [
 ⟨some 7, none, .q (.mv (.t 0)), []⟩,
 ⟨some 8, none, .q (.mv (.t 1)), []⟩,
 ⟨some 9, none, .e (.call 162 [(.t 7), (.t 8)]), []⟩,
 ⟨some 10, none, .q (.ext 0 (.t 9)), []⟩,
 ⟨some 11, none, .q (.ext 1 (.t 9)), []⟩,
 ⟨some 12, none, .q (.ext 2 (.t 9)), []⟩,
 ⟨some 4, none, .q (.mv (.t 10)), []⟩,
 ⟨some 5, none, .q (.mv (.t 11)), []⟩,
 ⟨some 6, none, .q (.mv (.t 12)), []⟩]
def c155_2 : ACode := .seq c155_1 .ret
def c155_3 : ACode := .seq c155_0 c155_2
@[go_sem] theorem c155_0_wp : type_of% (wp_of c155_0.eq_1) := wp_of c155_0.eq_1
@[go_sem] theorem c155_1_wp : type_of% (wp_of c155_1.eq_1) := wp_of c155_1.eq_1
@[go_sem] theorem c155_2_wp : type_of% (wp_of c155_2.eq_1) := wp_of c155_2.eq_1
@[go_sem] theorem c155_3_wp : type_of% (wp_of c155_3.eq_1) := wp_of c155_3.eq_1
def c155 : AFn := ⟨13, [.t 4, .t 5, .t 6], c155_3⟩
set_option maxRecDepth 100000 in
theorem c155_ok : compF Tryz.prog Tryz.f155 = some c155 := by kernel_rfl
theorem a155 {args : List AV} {σ : ASt} {R : AV → ASt → Prop} (hl : args.length ≤ 13) (h : c155_3.wp Tryz.prog (RetQ [.t 4, .t 5, .t 6] R) (init args) σ) : ACalls Tryz.prog 155 args σ R := acalls_of Tryz.func155 c155_ok hl h
/-! 162: internal/stringslite.Cut -/
def c162_0 : ACode := .ops [
 ⟨some 4, none, .q (.mv (.v (.str []))), []⟩,
 ⟨some 5, none, .q (.mv (.v (.str []))), []⟩,
 ⟨some 6, none, .q (.mv (.v (.bool false))), []⟩]
def c162_1 : ACode := .ops [
 ⟨some 8, none, .q (.mv (.t 0)), []⟩,
 ⟨some 9, none, .q (.mv (.t 1)), []⟩,
 ⟨some 10, none, .e (.call 136 [(.t 8), (.t 9)]), []⟩,
 ⟨some 7, none, .q (.mv (.t 10)), []⟩]
def c162_2 : ACode := .ops [
 ⟨some 11, none, .q (.mv (.t 7)), []⟩,
 ⟨some 12, none, .q (.bin .geq (.t 11) (.v (.int .i64 0))), []⟩]
def c162_3 : ACode := .ops [
 ⟨some 13, none, .q (.mv (.t 0)), []⟩,
 ⟨some 14, none, .q (.mv (.t 7)), []⟩,
 ⟨some 15, none, .q (.slto (true, 0) (.t 13) (.t 14)), []⟩,
 ⟨some 16, none, .q (.mv (.t 0)), []⟩,
 ⟨some 17, none, .q (.mv (.t 7)), []⟩,
 ⟨some 18, none, .q (.mv (.t 1)), []⟩,
 ⟨some 19, none, .q (.lenS (.t 18)), []⟩,
 ⟨some 20, none, .q (.bin .add (.t 17) (.t 19)), []⟩,
 ⟨some 21, none, .q (.slfrom (true, 0) (.t 16) (.t 20)), []⟩,
 ⟨some 4, none, .q (.mv (.t 15)), []⟩,
 ⟨some 5, none, .q (.mv (.t 21)), []⟩,
 ⟨some 6, none, .q (.mv (.v (.bool true))), []⟩]
def c162_4 : ACode := .seq c162_3 .ret
def c162_5 : ACode := .cond (.t 12) c162_4 .skip
def c162_6 : ACode := .seq c162_2 c162_5
def c162_7 : ACode := .seq c162_1 c162_6
def c162_8 : ACode := .ops [
 ⟨some 22, none, .q (.mv (.t 0)), []⟩,
 ⟨some 4, none, .q (.mv (.t 22)), []⟩,
 ⟨some 5, none, .q (.mv (.v (.str []))), []⟩,
 ⟨some 6, none, .q (.mv (.v (.bool false))), []⟩]
def c162_9 : ACode := .seq c162_8 .ret
def c162_10 : ACode := .seq c162_7 c162_9
def c162_11 : ACode := .seq c162_0 c162_10
@[go_sem] theorem c162_0_wp : type_of% (wp_of c162_0.eq_1) := wp_of c162_0.eq_1
@[go_sem] theorem c162_1_wp : type_of% (wp_of c162_1.eq_1) := wp_of c162_1.eq_1
@[go_sem] theorem c162_2_wp : type_of% (wp_of c162_2.eq_1) := wp_of c162_2.eq_1
@[go_sem] theorem c162_3_wp : type_of% (wp_of c162_3.eq_1) := wp_of c162_3.eq_1
@[go_sem] theorem c162_4_wp : type_of% (wp_of c162_4.eq_1) := wp_of c162_4.eq_1
@[go_sem] theorem c162_5_wp : type_of% (wp_of c162_5.eq_1) := wp_of c162_5.eq_1
@[go_sem] theorem c162_6_wp : type_of% (wp_of c162_6.eq_1) := wp_of c162_6.eq_1
@[go_sem] theorem c162_7_wp : type_of% (wp_of c162_7.eq_1) := wp_of c162_7.eq_1
@[go_sem] theorem c162_8_wp : type_of% (wp_of c162_8.eq_1) := wp_of c162_8.eq_1
@[go_sem] theorem c162_9_wp : type_of% (wp_of c162_9.eq_1) := wp_of c162_9.eq_1
@[go_sem] theorem c162_10_wp : type_of% (wp_of c162_10.eq_1) := wp_of c162_10.eq_1
@[go_sem] theorem c162_11_wp : type_of% (wp_of c162_11.eq_1) := wp_of c162_11.eq_1
def c162 : AFn := ⟨23, [.t 4, .t 5, .t 6], c162_11⟩
set_option maxRecDepth 100000 in
theorem c162_ok : compF Tryz.prog Tryz.f162 = some c162 := by kernel_rfl
theorem a162 {args : List AV} {σ : ASt} {R : AV → ASt → Prop} (hl : args.length ≤ 23) (h : c162_11.wp Tryz.prog (RetQ [.t 4, .t 5, .t 6] R) (init args) σ) : ACalls Tryz.prog 162 args σ R := acalls_of Tryz.func162 c162_ok hl h
end Go.A
namespace Go.A
open Go.Proofs
set_option maxRecDepth 100000
set_option linter.unusedSimpArgs false
set_option linter.unusedVariables false
def greatC (c : UInt8) : UInt8 := if 97 ≤ c.toNat ∧ c.toNat ≤ 122 then UInt8.ofNat (c.toNat - 32) else c
def greatP (l : List UInt8) : List UInt8 := l.map greatC
end Go.A
namespace Go.A
open Go.Proofs Go.Lib
set_option maxRecDepth 100000
set_option linter.unusedSimpArgs false
set_option linter.unusedVariables false
def signsN (l : List UInt8) : Nat := runeCount ⟨⟨l⟩⟩
theorem signsN_le (l : List UInt8) : signsN l ≤ l.length := runeCount_le ⟨⟨l⟩⟩
def wordB (c : UInt8) : Bool := decide ((48 ≤ c.toNat ∧ c.toNat ≤ 57) ∨ (97 ≤ c.toNat ∧ c.toNat ≤ 122) ∨ (65 ≤ c.toNat ∧ c.toNat ≤ 90) ∨ c.toNat = 95 ∨ c.toNat = 36 ∨ c.toNat = 46)
def digB (c : UInt8) : Bool := decide (48 ≤ c.toNat ∧ c.toNat ≤ 57)
def nameB (s : List UInt8) : Bool := decide (s ≠ []) && s.all (fun c => wordB c && decide (c.toNat ≠ 36)) && !((s.head?.map fun c => digB c || decide (c.toNat = 46)).getD false)
def cutDot : List UInt8 → List UInt8 × Option (List UInt8)
  | [] => ([], none)
  | c :: r => if c.toNat = 46 then ([], some r) else (c :: (cutDot r).1, (cutDot r).2)
def numB (s : List UInt8) : Bool :=
  match cutDot s with
  | (w, none) => decide (w ≠ []) && w.all digB
  | (w, some p) => decide (w ≠ []) && decide (p ≠ []) && decide (p.length ≤ 4) && (w ++ p).all digB
def refB (s : List UInt8) : Bool := (parseP s).2
inductive Step where
  | bad (k : Nat)
  | blank
  | tok (kind : Int) (text : List UInt8) (n : Nat)
  deriving DecidableEq
def wordsS (r : List UInt8) : Step :=
  let n := runL wordB r
  let w := r.take n
  if numB w then .tok 1 w n else if refB w then .tok 4 (greatP w) n else if nameB w then .tok 3 (greatP w) n else .bad 0
def quotedF : Nat → List UInt8 → Nat → List UInt8 → Step
  | 0, _, _, _ => .bad 0
  | k + 1, r, p, acc =>
    if r = [] then .bad 0
    else if decodeL r = (65533, 1) then .bad (1 + p)
    else if (decodeL r).1 ≠ 34 then quotedF k (r.drop (decodeL r).2) (p + (decodeL r).2) (acc ++ encodeRune ((decodeL r).1 : Int))
    else if r[1]? = some 34 then quotedF k (r.drop 2) (p + 2) (acc ++ [34])
    else .tok 2 acc (p + 2)
def errTexts : List (List UInt8) := [[35, 68, 73, 86, 47, 48, 33], [35, 78, 85, 77, 33], [35, 86, 65, 76, 85, 69, 33], [35, 82, 69, 70, 33], [35, 78, 47, 65], [35, 78, 65, 77, 69, 63], [35, 67, 89, 67, 76, 69, 33]]
def failS (r : List UInt8) : List (List UInt8) → Step
  | [] => .bad 0
  | e :: es => if e.length ≤ r.length ∧ greatP (r.take e.length) = e then .tok 5 e e.length else failS r es
def alikeP (c : Int) : List UInt8 :=
  if c = 8804 then [60, 61] else if c = 8805 then [62, 61] else if c = 8800 then [60, 62] else if c = 215 then [42] else if c = 247 then [47] else if c = 8722 then [45] else []
def twos : List (List UInt8) := [[60, 61], [62, 61], [60, 62]]
def twoS (r : List UInt8) : List (List UInt8) → Option (List UInt8)
  | [] => none
  | e :: es => if e.isPrefixOf r then some e else twoS r es
def opChars : List UInt8 := [43, 45, 42, 47, 94, 38, 61, 60, 62, 37, 40, 41, 58, 44]
def opS (c : Int) (n : Nat) (r : List UInt8) : Step :=
  if alikeP c ≠ [] then .tok 6 (alikeP c) n
  else match twoS r twos with
    | some e => .tok 6 e 2
    | none => if (r.headD 0) ∈ opChars then .tok 6 (r.take 1) 1 else .bad 0
def stepP (r : List UInt8) : Step :=
  let c := (decodeL r).1
  if decodeL r = (65533, 1) then .bad 0
  else if c = 32 ∨ c = 9 ∨ c = 10 then .blank
  else if c < 128 ∧ wordB (UInt8.ofNat c) = true then wordsS r
  else if c = 34 then quotedF (r.length) (r.drop 1) 0 []
  else if c = 35 then failS r errTexts
  else opS c (decodeL r).2 r
structure Tok where
  kind : Int
  text : List UInt8
  at' : Nat
  col : Nat
  deriving DecidableEq
def lexF : Nat → List UInt8 → Nat → Nat → List Tok → List Tok × Nat × Int
  | 0, _, a, _, acc => ([], a, 10)
  | k + 1, r, a, c, acc =>
    if r = [] then (acc ++ [⟨0, [], a, c⟩], 0, 0)
    else match stepP r with
      | .bad j => ([], a + j, 10)
      | .blank => lexF k (r.drop 1) (a + 1) (c + 1) acc
      | .tok kind t n => lexF k (r.drop n) (a + n) (c + signsN (r.take n)) (acc ++ [⟨kind, t, a, c⟩])
def lexP (s : List UInt8) : List Tok × Nat × Int := if 2000 < s.length then ([], 0, 11) else lexF (s.length + 1) s 0 0 []
def sgF : Nat → List UInt8 → Option Nat
  | 0, _ => none
  | k + 1, r => if r = [] then some 0 else if decodeL r = (65533, 1) then none else (sgF k (r.drop (decodeL r).2)).map (· + 1)
def tokAV (t : Tok) : AV := .agg [.int .i64 t.kind, .str t.text, .int .i64 t.at', .int .i64 t.col]
end Go.A
namespace Go.A
set_option linter.unusedSimpArgs false
set_option linter.unusedVariables false
inductive Nd where
  | mk (op n : Int) (s : List UInt8) (a b : Ref) (kids : List Nd)
instance : Inhabited Nd := ⟨.mk 0 0 [] .zero .zero []⟩
def Nd.op : Nd → Int | .mk op _ _ _ _ _ => op
mutual
def Nd.av : Nd → AV
  | .mk op n s a b kids => .agg [.int .i64 op, .int .i64 n, .str s, .int .i64 a.row, .int .i64 a.col, .bool a.absRow, .bool a.absCol, .int .i64 b.row, .int .i64 b.col, .bool b.absRow, .bool b.absCol, .sl .shr (Nd.avs kids)]
def Nd.avs : List Nd → List AV
  | [] => []
  | x :: xs => x.av :: Nd.avs xs
end
theorem Nd.avs_map : ∀ l : List Nd, Nd.avs l = l.map Nd.av
  | [] => rfl
  | x :: xs => by rw [Nd.avs, Nd.avs_map xs]; rfl
theorem Nd.av_eq (op n : Int) (s : List UInt8) (a b : Ref) (kids : List Nd) : (Nd.mk op n s a b kids).av = .agg [.int .i64 op, .int .i64 n, .str s, .int .i64 a.row, .int .i64 a.col, .bool a.absRow, .bool a.absCol, .int .i64 b.row, .int .i64 b.col, .bool b.absRow, .bool b.absCol, .sl .shr (kids.map Nd.av)] := by
  rw [Nd.av, Nd.avs_map]
def Nd.cs (op n : Int) (s : List UInt8) (a b : Ref) (L : List AV) : List AV := [.int .i64 op, .int .i64 n, .str s, .int .i64 a.row, .int .i64 a.col, .bool a.absRow, .bool a.absCol, .int .i64 b.row, .int .i64 b.col, .bool b.absRow, .bool b.absCol, .sl .shr L]
theorem Nd.av_cs (op n : Int) (s : List UInt8) (a b : Ref) (kids : List Nd) : (Nd.mk op n s a b kids).av = .agg (Nd.cs op n s a b (kids.map Nd.av)) := Nd.av_eq ..
section
variable {op n : Int} {s : List UInt8} {a b : Ref} {L : List AV}
@[go_sem] theorem cs_0 : (Nd.cs op n s a b L)[0]? = some (.int .i64 op) := id rfl
@[go_sem] theorem cs_1 : (Nd.cs op n s a b L)[1]? = some (.int .i64 n) := id rfl
@[go_sem] theorem cs_2 : (Nd.cs op n s a b L)[2]? = some (.str s) := id rfl
@[go_sem] theorem cs_11 : (Nd.cs op n s a b L)[11]? = some (.sl .shr L) := id rfl
@[go_sem] theorem cs_len : (Nd.cs op n s a b L).length = 12 := id rfl
@[go_sem] theorem cs_leaves : leaves (Nd.cs op n s a b L) = true := id rfl
@[go_sem] theorem cs_take : (Nd.cs op n s a b L).take 12 = Nd.cs op n s a b L := id rfl
@[go_sem] theorem cs_ta : ((Nd.cs op n s a b L).drop 3).take 4 = [.int .i64 a.row, .int .i64 a.col, .bool a.absRow, .bool a.absCol] := id rfl
@[go_sem] theorem cs_tb : ((Nd.cs op n s a b L).drop 7).take 4 = [.int .i64 b.row, .int .i64 b.col, .bool b.absRow, .bool b.absCol] := id rfl
end
theorem Nd.av_len (n : Nd) : n.av.cells.length = 12 := by cases n; rfl
theorem Nd.get {l : List Nd} {i : Nat} {x : Nd} (h : l[i]? = some x) : (l.map Nd.av)[i]? = some x.av := by rw [List.getElem?_map, h]; rfl
mutual
theorem Nd.deep : ∀ n : Nd, Go.A.deep n.av = n.av
  | .mk op n s a b kids => by
    rw [Nd.av, Go.A.deep]
    simp only [Go.A.deeps, Go.A.deep, Nd.deeps kids]
theorem Nd.deeps : ∀ l : List Nd, Go.A.deeps (Nd.avs l) = Nd.avs l
  | [] => rfl
  | x :: xs => by rw [Nd.avs, Go.A.deeps, Nd.deep x, Nd.deeps xs]
end
mutual
def Nd.size : Nd → Nat
  | .mk _ _ _ _ _ kids => 1 + Nd.sizes kids
def Nd.sizes : List Nd → Nat
  | [] => 0
  | x :: xs => x.size + Nd.sizes xs
end
theorem Nd.size_kid : ∀ {l : List Nd} {x : Nd}, x ∈ l → x.size ≤ Nd.sizes l
  | [], _, h => by cases h
  | y :: l, x, h => by
    rw [Nd.sizes]
    rcases List.mem_cons.1 h with rfl | h
    · omega
    · have := Nd.size_kid h; omega
theorem Nd.size_pos (n : Nd) : 0 < n.size := by cases n; rw [Nd.size]; omega
mutual
def Nd.depth : Nd → Nat
  | .mk _ _ _ _ _ kids => Nd.depths kids + 1
def Nd.depths : List Nd → Nat
  | [] => 0
  | x :: xs => max x.depth (Nd.depths xs)
end
theorem Nd.depth_le_size : ∀ n : Nd, n.depth ≤ n.size := by
  intro n
  induction h : n.size using Nat.strongRecOn generalizing n with
  | _ k ih =>
    obtain ⟨op, m, s, a, b, kids⟩ := n
    subst h
    rw [Nd.size] at ih ⊢
    rw [Nd.depth]
    have key : ∀ l : List Nd, (∀ x ∈ l, x.depth ≤ x.size) → Nd.depths l ≤ Nd.sizes l := by
      intro l
      induction l with
      | nil => intro _; exact Nat.le_refl _
      | cons x l ihl =>
        intro hx
        rw [Nd.depths, Nd.sizes]
        have h1 := hx x (by simp)
        have h2 := ihl fun y hy => hx y (by simp [hy])
        omega
    have := key kids fun x hx => ih _ (by have := Nd.size_kid hx; omega) x rfl
    omega
def levelP (op : Int) : Int :=
  if op = 7 ∨ op = 8 then 6 else if op = 9 then 7 else if op < 10 ∨ 22 ≤ op then 8
  else if op ≤ 11 then 3 else if op ≤ 13 then 4 else if op = 14 then 5 else if op = 15 then 2 else 1
def signL : List (List UInt8) := [[43], [45], [42], [47], [94], [38], [61], [60, 62], [60], [60, 61], [62], [62, 61]]
def errL : List (List UInt8) := [[35, 68, 73, 86, 47, 48, 33], [35, 78, 85, 77, 33], [35, 86, 65, 76, 85, 69, 33], [35, 82, 69, 70, 33], [35, 78, 47, 65], [35, 78, 65, 77, 69, 63], [35, 67, 89, 67, 76, 69, 33]]
def failT (op n : Int) : List UInt8 := if op ≠ 4 ∨ n.tdiv 10000 < 1 ∨ 7 < n.tdiv 10000 then [] else errL.getD (n.tdiv 10000 - 1).toNat []
def truthP (b : Bool) : List UInt8 := if b = true then [84, 82, 85, 69] else [70, 65, 76, 83, 69]
def quotT (s : List UInt8) : List UInt8 := 34 :: (s.flatMap fun c => if c = 34 then [34, 34] else [c]) ++ [34]
def insT (least : Int) (op : Int) (t : List UInt8) : List UInt8 := if least ≤ levelP op then t else 40 :: t ++ [41]
def joinC : List (Int × List UInt8) → List UInt8
  | [] => []
  | p :: r => p.2 ++ r.flatMap fun q => 44 :: q.2
def spellK (op n : Int) (s : List UInt8) (a b : Ref) (ks : List (Int × List UInt8)) : List UInt8 :=
  if op = 1 then textD n else if op = 2 then quotT s else if op = 3 then truthP (!decide (n = 0)) else if op = 4 then failT op n else if op = 5 then textP a else if op = 6 then textP a ++ [58] ++ textP b
  else if op = 7 ∨ op = 8 then (if op = 7 then 45 else 43) :: insT 6 (ks.getD 0 (0, [])).1 (ks.getD 0 (0, [])).2
  else if op = 9 then insT 7 (ks.getD 0 (0, [])).1 (ks.getD 0 (0, [])).2 ++ [37]
  else if op = 22 then s ++ 40 :: joinC ks ++ [41]
  else if op = 23 then []
  else insT (levelP op) (ks.getD 0 (0, [])).1 (ks.getD 0 (0, [])).2 ++ signL.getD (op - 10).toNat [] ++ insT (levelP op + 1) (ks.getD 1 (0, [])).1 (ks.getD 1 (0, [])).2
mutual
def Nd.spell : Nd → List UInt8
  | .mk op n s a b kids => spellK op n s a b (Nd.spells kids)
def Nd.spells : List Nd → List (Int × List UInt8)
  | [] => []
  | x :: xs => (x.op, x.spell) :: Nd.spells xs
end
theorem Nd.spells_map : ∀ l : List Nd, Nd.spells l = l.map fun x => (x.op, x.spell)
  | [] => rfl
  | x :: xs => by rw [Nd.spells, Nd.spells_map xs]; rfl
def nodeOk (op n : Int) (s : List UInt8) (a b : Ref) (k : Nat) : Prop :=
  (1 ≤ op ∧ op ≤ 23) ∧ (op = 1 → n.natAbs ≤ 999999999999999999) ∧ (op = 2 → s.length ≤ 100000) ∧ (op = 4 → 1 ≤ n.tdiv 10000 ∧ n.tdiv 10000 ≤ 7) ∧ (op = 22 → s ≠ []) ∧ (op = 5 ∨ op = 6 → a.good = true) ∧ (op = 6 → b.good = true) ∧ (op = 7 ∨ op = 8 ∨ op = 9 → 1 ≤ k) ∧ (10 ≤ op ∧ op ≤ 21 → 2 ≤ k) ∧ k ≤ 1000000
mutual
def Nd.ok : Nd → Prop
  | .mk op n s a b kids => nodeOk op n s a b kids.length ∧ Nd.oks kids
def Nd.oks : List Nd → Prop
  | [] => True
  | x :: xs => x.ok ∧ Nd.oks xs
end
theorem Nd.oks_mem : ∀ {l : List Nd}, Nd.oks l ↔ ∀ x ∈ l, x.ok
  | [] => by simp [Nd.oks]
  | y :: l => by rw [Nd.oks, Nd.oks_mem (l := l)]; simp
end Go.A
namespace Go.Proofs
open Go.Shelf
def Tryz.lays169_ren : Go.Shelf.Ren := ⟨fun | 169 => 33 | n => n, fun | 70 => 70 | 9 => 9 | 0 => 0 | 72 => 72 | 37 => 51 | 127 => 108 | 3 => 3 | 5 => 5 | n => n, fun | n => n⟩
theorem Tryz.lays169 : Go.Proofs.Lays.n169 Tryz.prog Tryz.lays169_ren := {
  mixed := by kernel_rfl
  f169 := Tryz.func33.trans (congrArg some (by kernel_rfl))
  t0 := Tryz.underlying0
  a0 := Tryz.isAgg0
  z0 := Tryz.sizeOf0
  v0 := Tryz.zeroValue0
  t3 := Tryz.underlying3
  a3 := Tryz.isAgg3
  z3 := Tryz.sizeOf3
  v3 := Tryz.zeroValue3
  t9 := Tryz.underlying9
  a9 := Tryz.isAgg9
  z9 := Tryz.sizeOf9
  v9 := Tryz.zeroValue9
  t37 := Tryz.underlying51
  a37 := Tryz.isAgg51
  z37 := Tryz.sizeOf51
  v37 := Tryz.zeroValue51
  t70 := Tryz.underlying70
  a70 := Tryz.isAgg70
  z70 := Tryz.sizeOf70
  v70 := Tryz.zeroValue70
  t72 := Tryz.underlying72
  a72 := Tryz.isAgg72
  z72 := Tryz.sizeOf72
  v72 := Tryz.zeroValue72
  t127 := Tryz.underlying108
  a127 := Tryz.isAgg108
  z127 := Tryz.sizeOf108
  v127 := Tryz.zeroValue108 }
theorem Tryz.Builder_Extra_169 : Builder.Extra Tryz.prog Tryz.lays169_ren := {
  sizeBuilder := by kernel_rfl
  liesBuilder := by kernel_rfl
  t5 := Tryz.underlying5
  a5 := Tryz.isAgg5
  z5 := Tryz.sizeOf5
  v5 := Tryz.zeroValue5
  infoByte := by kernel_rfl
  cellsByte := by kernel_rfl
  sizeByte := by kernel_rfl
  neB5 := by decide }
def Tryz.lays162_ren : Go.Shelf.Ren := ⟨fun | 162 => 84 | 232 => 99 | 227 => 100 | 234 => 101 | 236 => 102 | 228 => 112 | 271 => 113 | 151 => 114 | 120 => 132 | 197 => 94 | 152 => 133 | 260 => 105 | 137 => 148 | 119 => 149 | 224 => 150 | 225 => 151 | 217 => 153 | 266 => 160 | n => n, fun | 9 => 9 | 4 => 4 | 3 => 3 | 5 => 5 | 117 => 140 | 116 => 139 | 0 => 0 | 124 => 143 | 21 => 21 | 105 => 127 | 46 => 113 | 119 => 158 | 139 => 161 | 138 => 160 | n => n, fun | 3 => 0 | 4 => 1 | n => n⟩
theorem Tryz.lays162 : Go.Proofs.Lays.n162 Tryz.prog Tryz.lays162_ren := {
  mixed := by kernel_rfl
  f119 := Tryz.func149.trans (congrArg some (by kernel_rfl))
  f120 := Tryz.func132.trans (congrArg some (by kernel_rfl))
  f137 := Tryz.func148.trans (congrArg some (by kernel_rfl))
  f151 := Tryz.func114.trans (congrArg some (by kernel_rfl))
  f152 := Tryz.func133.trans (congrArg some (by kernel_rfl))
  f162 := Tryz.func84.trans (congrArg some (by kernel_rfl))
  f197 := Tryz.func94.trans (congrArg some (by kernel_rfl))
  f217 := Tryz.func153.trans (congrArg some (by kernel_rfl))
  f224 := Tryz.func150.trans (congrArg some (by kernel_rfl))
  f225 := Tryz.func151.trans (congrArg some (by kernel_rfl))
  f227 := Tryz.func100.trans (congrArg some (by kernel_rfl))
  f228 := Tryz.func112.trans (congrArg some (by kernel_rfl))
  f232 := Tryz.func99.trans (congrArg some (by kernel_rfl))
  f234 := Tryz.func101.trans (congrArg some (by kernel_rfl))
  f236 := Tryz.func102.trans (congrArg some (by kernel_rfl))
  f260 := Tryz.func105.trans (congrArg some (by kernel_rfl))
  f266 := Tryz.func160.trans (congrArg some (by kernel_rfl))
  f271 := Tryz.func113.trans (congrArg some (by kernel_rfl))
  t0 := Tryz.underlying0
  a0 := Tryz.isAgg0
  z0 := Tryz.sizeOf0
  v0 := Tryz.zeroValue0
  t3 := Tryz.underlying3
  a3 := Tryz.isAgg3
  z3 := Tryz.sizeOf3
  v3 := Tryz.zeroValue3
  t4 := Tryz.underlying4
  a4 := Tryz.isAgg4
  z4 := Tryz.sizeOf4
  v4 := Tryz.zeroValue4
  t5 := Tryz.underlying5
  a5 := Tryz.isAgg5
  z5 := Tryz.sizeOf5
  v5 := Tryz.zeroValue5
  t9 := Tryz.underlying9
  a9 := Tryz.isAgg9
  z9 := Tryz.sizeOf9
  v9 := Tryz.zeroValue9
  t21 := Tryz.underlying21
  a21 := Tryz.isAgg21
  z21 := Tryz.sizeOf21
  v21 := Tryz.zeroValue21
  t46 := Tryz.underlying113
  a46 := Tryz.isAgg113
  z46 := Tryz.sizeOf113
  v46 := Tryz.zeroValue113
  t105 := Tryz.underlying127
  a105 := Tryz.isAgg127
  z105 := Tryz.sizeOf127
  v105 := Tryz.zeroValue127
  t116 := Tryz.underlying139
  a116 := Tryz.isAgg139
  z116 := Tryz.sizeOf139
  t117 := Tryz.underlying140
  a117 := Tryz.isAgg140
  z117 := Tryz.sizeOf140
  v117 := Tryz.zeroValue140
  t119 := Tryz.underlying158
  a119 := Tryz.isAgg158
  z119 := Tryz.sizeOf158
  t124 := Tryz.underlying143
  a124 := Tryz.isAgg143
  z124 := Tryz.sizeOf143
  v124 := Tryz.zeroValue143
  t138 := Tryz.underlying160
  a138 := Tryz.isAgg160
  z138 := Tryz.sizeOf160
  v138 := Tryz.zeroValue160
  t139 := Tryz.underlying161
  a139 := Tryz.isAgg161
  z139 := Tryz.sizeOf161
  v139 := Tryz.zeroValue161
  g3 := by kernel_rfl
  g4 := by kernel_rfl }
open Go.RowKit in
theorem Tryz.strings_TrimRight_one (s : ByteArray) (c : UInt8) (hc : c.toNat < 128) (w : World) (hs : s.size ≤ 9223372036854775807) :
    Calls Tryz.prog 84 #[.string s, .string ⟨#[c]⟩] w fun e w' => e = .returned (.string ⟨(Lib.trimRightB s.data.toList c).toArray⟩) ∧ w' = w := Any.strings_TrimRight_one Tryz.lays162 s c hc w hs
def Tryz.lays118_ren : Go.Shelf.Ren := ⟨fun | 118 => 142 | n => n, fun | 21 => 21 | 3 => 3 | 4 => 4 | n => n, fun | n => n⟩
theorem Tryz.lays118 : Go.Proofs.Lays.n118 Tryz.prog Tryz.lays118_ren := {
  mixed := by kernel_rfl
  f118 := Tryz.func142.trans (congrArg some (by kernel_rfl))
  t3 := Tryz.underlying3
  a3 := Tryz.isAgg3
  z3 := Tryz.sizeOf3
  v3 := Tryz.zeroValue3
  t4 := Tryz.underlying4
  a4 := Tryz.isAgg4
  z4 := Tryz.sizeOf4
  v4 := Tryz.zeroValue4
  t21 := Tryz.underlying21
  a21 := Tryz.isAgg21
  z21 := Tryz.sizeOf21
  v21 := Tryz.zeroValue21 }
theorem Tryz.utf8_RuneLen (r : Int) (w : World) :
    Calls Tryz.prog 142 #[.int .i32 r] w fun e w' => e = .returned (.int .i64 (Lib.runeLen r)) ∧ w' = w := Any.utf8_RuneLen Tryz.lays118 r w
def Tryz.lays195_ren : Go.Shelf.Ren := ⟨fun | 195 => 126 | n => n, fun | 9 => 9 | 3 => 3 | 0 => 0 | 4 => 4 | n => n, fun | n => n⟩
theorem Tryz.lays195 : Go.Proofs.Lays.n195 Tryz.prog Tryz.lays195_ren := {
  mixed := by kernel_rfl
  f195 := Tryz.func126.trans (congrArg some (by kernel_rfl))
  t0 := Tryz.underlying0
  a0 := Tryz.isAgg0
  z0 := Tryz.sizeOf0
  v0 := Tryz.zeroValue0
  t3 := Tryz.underlying3
  a3 := Tryz.isAgg3
  z3 := Tryz.sizeOf3
  v3 := Tryz.zeroValue3
  t4 := Tryz.underlying4
  a4 := Tryz.isAgg4
  z4 := Tryz.sizeOf4
  v4 := Tryz.zeroValue4
  t9 := Tryz.underlying9
  a9 := Tryz.isAgg9
  z9 := Tryz.sizeOf9
  v9 := Tryz.zeroValue9 }
open Go.RowKit in
theorem Tryz.utf8_RuneCountInString (s : ByteArray) (w : World) (hs : s.size < 9223372036854775807) :
    Calls Tryz.prog 126 #[.string s] w fun e w' => e = .returned (.int .i64 (Lib.runeCount s)) ∧ ∃ pos, w' = w.iter s pos := Any.utf8_RuneCountInString Tryz.lays195 s w hs
def Tryz.lays283_ren : Go.Shelf.Ren := ⟨fun | 283 => 108 | n => n, fun | 3 => 3 | 9 => 9 | 4 => 4 | n => n, fun | n => n⟩
theorem Tryz.lays283 : Go.Proofs.Lays.n283 Tryz.prog Tryz.lays283_ren := {
  mixed := by kernel_rfl
  f283 := Tryz.func108.trans (congrArg some (by kernel_rfl))
  t3 := Tryz.underlying3
  a3 := Tryz.isAgg3
  z3 := Tryz.sizeOf3
  v3 := Tryz.zeroValue3
  t4 := Tryz.underlying4
  a4 := Tryz.isAgg4
  z4 := Tryz.sizeOf4
  v4 := Tryz.zeroValue4
  t9 := Tryz.underlying9
  a9 := Tryz.isAgg9
  z9 := Tryz.sizeOf9
  v9 := Tryz.zeroValue9 }
open Go.Lib in
theorem Tryz.internal_strconv_small (i : Nat) (h : i < 100) (w : World) :
    Calls Tryz.prog 108 #[.int .i64 i] w fun e w' => e = .returned (.string ⟨(Lib.decDigits i).toArray⟩) ∧ w' = w := Any.internal_strconv_small Tryz.lays283 i h w
def Tryz.laysM284_ren : Go.Shelf.Ren := ⟨fun | 284 => 109 | 129 => 128 | 317 => 127 | 318 => 129 | n => n, fun | 53 => 84 | 3 => 3 | 212 => 166 | 0 => 0 | 4 => 4 | 46 => 113 | 5 => 5 | 9 => 9 | n => n, fun | 17 => 2 | n => n⟩
theorem Tryz.laysM284 : Go.Proofs.LaysM.n284 Tryz.prog Tryz.laysM284_ren := {
  mixed := by kernel_rfl
  f129 := Tryz.func128.trans (congrArg some (by kernel_rfl))
  f284 := Tryz.func109.trans (congrArg some (by kernel_rfl))
  f317 := Tryz.func127.trans (congrArg some (by kernel_rfl))
  f318 := Tryz.func129.trans (congrArg some (by kernel_rfl))
  t0 := Tryz.underlying0
  a0 := Tryz.isAgg0
  z0 := Tryz.sizeOf0
  v0 := Tryz.zeroValue0
  t3 := Tryz.underlying3
  a3 := Tryz.isAgg3
  z3 := Tryz.sizeOf3
  v3 := Tryz.zeroValue3
  t4 := Tryz.underlying4
  a4 := Tryz.isAgg4
  z4 := Tryz.sizeOf4
  v4 := Tryz.zeroValue4
  t5 := Tryz.underlying5
  a5 := Tryz.isAgg5
  z5 := Tryz.sizeOf5
  v5 := Tryz.zeroValue5
  t9 := Tryz.underlying9
  a9 := Tryz.isAgg9
  z9 := Tryz.sizeOf9
  v9 := Tryz.zeroValue9
  t46 := Tryz.underlying113
  a46 := Tryz.isAgg113
  z46 := Tryz.sizeOf113
  v46 := Tryz.zeroValue113
  t53 := Tryz.underlying84
  a53 := Tryz.isAgg84
  z53 := Tryz.sizeOf84
  v53 := Tryz.zeroValue84
  t212 := Tryz.underlying166
  a212 := Tryz.isAgg166
  z212 := Tryz.sizeOf166
  v212 := Tryz.zeroValue166
  g17 := by kernel_rfl
  i0 := by kernel_rfl
  i3 := by kernel_rfl
  i4 := by kernel_rfl
  i5 := by kernel_rfl
  i9 := by kernel_rfl
  i46 := by kernel_rfl
  i53 := by kernel_rfl
  i212 := by kernel_rfl
  m17 := by kernel_rfl }
open Go.Lib in
theorem Tryz.internal_strconv_numDigits (u : Nat) (h1 : 1 ≤ u) (h2 : u < 18446744073709551616) (w : World) (htab : Lib.TabIs Tryz.prog w "internal/strconv.uint64pow10" .u64 Lib.pow10Tab) :
    Calls Tryz.prog 109 #[.int .u64 u] w fun e w' => e = .returned (.int .i64 (Lib.nDigits u)) ∧ w' = w := Any.internal_strconv_numDigits Tryz.laysM284 u h1 h2 w htab
def Tryz.lays285_ren : Go.Shelf.Ren := ⟨fun | 285 => 110 | n => n, fun | 37 => 51 | 53 => 84 | 3 => 3 | 4 => 4 | 51 => 167 | 9 => 9 | 5 => 5 | 0 => 0 | n => n, fun | n => n⟩
theorem Tryz.lays285 : Go.Proofs.Lays.n285 Tryz.prog Tryz.lays285_ren := {
  mixed := by kernel_rfl
  f285 := Tryz.func110.trans (congrArg some (by kernel_rfl))
  t0 := Tryz.underlying0
  a0 := Tryz.isAgg0
  z0 := Tryz.sizeOf0
  v0 := Tryz.zeroValue0
  t3 := Tryz.underlying3
  a3 := Tryz.isAgg3
  z3 := Tryz.sizeOf3
  v3 := Tryz.zeroValue3
  t4 := Tryz.underlying4
  a4 := Tryz.isAgg4
  z4 := Tryz.sizeOf4
  v4 := Tryz.zeroValue4
  t5 := Tryz.underlying5
  a5 := Tryz.isAgg5
  z5 := Tryz.sizeOf5
  v5 := Tryz.zeroValue5
  t9 := Tryz.underlying9
  a9 := Tryz.isAgg9
  z9 := Tryz.sizeOf9
  v9 := Tryz.zeroValue9
  t37 := Tryz.underlying51
  a37 := Tryz.isAgg51
  z37 := Tryz.sizeOf51
  v37 := Tryz.zeroValue51
  t51 := Tryz.underlying167
  a51 := Tryz.isAgg167
  z51 := Tryz.sizeOf167
  v51 := Tryz.zeroValue167
  t53 := Tryz.underlying84
  a53 := Tryz.isAgg84
  z53 := Tryz.sizeOf84
  v53 := Tryz.zeroValue84 }
open Go.RowKit Go.Sort Go.Lib in
theorem Tryz.internal_strconv_formatBase10 (blk off cap : Nat) (u : Nat) (d : Array UInt8) (w : World) (hH : Holds (fun (b : UInt8) => Value.int .u8 (b.toNat : Int)) w blk off d) (hu : u < 10 ^ d.size) (hu64 : u < 18446744073709551616) (hsz : d.size < 4611686018427387904) :
    Calls Tryz.prog 110 #[.slice (some ⟨blk, off, none⟩) d.size cap, .int .u64 u] w fun e w' =>
      e = .returned (.tuple #[]) ∧ ∃ (n v' : Nat) (dk : Array UInt8), w' = (putRow (fun (b : UInt8) => Value.int .u8 (b.toNat : Int)) w blk off dk).drewN n ∧ FmtInv d.size u 0 v' dk := Any.internal_strconv_formatBase10 Tryz.lays285 blk off cap u d w hH hu hu64 hsz
def Tryz.laysM246_ren : Go.Shelf.Ren := ⟨fun | 246 => 118 | 283 => 108 | 284 => 109 | 285 => 110 | 286 => 111 | 129 => 128 | 317 => 127 | 318 => 129 | 319 => 130 | 320 => 131 | 337 => 146 | 338 => 147 | n => n, fun | 2 => 2 | 3 => 3 | 9 => 9 | 4 => 4 | 171 => 149 | 0 => 0 | 53 => 84 | 37 => 51 | 5 => 5 | 173 => 152 | 212 => 166 | 51 => 167 | 20 => 20 | 213 => 168 | 46 => 113 | 232 => 184 | 233 => 185 | n => n, fun | 17 => 2 | 18 => 4 | 19 => 5 | n => n⟩
def Tryz.laysM243_ren : Go.Shelf.Ren := ⟨fun | 243 => 104 | 246 => 118 | 283 => 108 | 284 => 109 | 285 => 110 | 286 => 111 | 129 => 128 | 317 => 127 | 318 => 129 | 319 => 130 | 320 => 131 | 337 => 146 | 338 => 147 | n => n, fun | 3 => 3 | 9 => 9 | 2 => 2 | 4 => 4 | 171 => 149 | 0 => 0 | 53 => 84 | 37 => 51 | 5 => 5 | 173 => 152 | 212 => 166 | 51 => 167 | 20 => 20 | 213 => 168 | 46 => 113 | 232 => 184 | 233 => 185 | n => n, fun | 17 => 2 | 18 => 4 | 19 => 5 | n => n⟩
def Tryz.laysM171_ren : Go.Shelf.Ren := ⟨fun | 171 => 88 | 243 => 104 | 246 => 118 | 283 => 108 | 284 => 109 | 285 => 110 | 286 => 111 | 129 => 128 | 317 => 127 | 318 => 129 | 319 => 130 | 320 => 131 | 337 => 146 | 338 => 147 | n => n, fun | 3 => 3 | 9 => 9 | 2 => 2 | 4 => 4 | 171 => 149 | 0 => 0 | 53 => 84 | 37 => 51 | 5 => 5 | 173 => 152 | 212 => 166 | 51 => 167 | 20 => 20 | 213 => 168 | 46 => 113 | 232 => 184 | 233 => 185 | n => n, fun | 17 => 2 | 18 => 4 | 19 => 5 | n => n⟩
theorem Tryz.laysM171 : Go.Proofs.LaysM.n171 Tryz.prog Tryz.laysM171_ren := {
  mixed := by kernel_rfl
  f129 := Tryz.func128.trans (congrArg some (by kernel_rfl))
  f171 := Tryz.func88.trans (congrArg some (by kernel_rfl))
  f243 := Tryz.func104.trans (congrArg some (by kernel_rfl))
  f246 := Tryz.func118.trans (congrArg some (by kernel_rfl))
  f283 := Tryz.func108.trans (congrArg some (by kernel_rfl))
  f284 := Tryz.func109.trans (congrArg some (by kernel_rfl))
  f285 := Tryz.func110.trans (congrArg some (by kernel_rfl))
  f286 := Tryz.func111.trans (congrArg some (by kernel_rfl))
  f317 := Tryz.func127.trans (congrArg some (by kernel_rfl))
  f318 := Tryz.func129.trans (congrArg some (by kernel_rfl))
  f319 := Tryz.func130.trans (congrArg some (by kernel_rfl))
  f320 := Tryz.func131.trans (congrArg some (by kernel_rfl))
  f337 := Tryz.func146.trans (congrArg some (by kernel_rfl))
  f338 := Tryz.func147.trans (congrArg some (by kernel_rfl))
  t0 := Tryz.underlying0
  a0 := Tryz.isAgg0
  z0 := Tryz.sizeOf0
  v0 := Tryz.zeroValue0
  t2 := Tryz.underlying2
  a2 := Tryz.isAgg2
  z2 := Tryz.sizeOf2
  v2 := Tryz.zeroValue2
  t3 := Tryz.underlying3
  a3 := Tryz.isAgg3
  z3 := Tryz.sizeOf3
  v3 := Tryz.zeroValue3
  t4 := Tryz.underlying4
  a4 := Tryz.isAgg4
  z4 := Tryz.sizeOf4
  v4 := Tryz.zeroValue4
  t5 := Tryz.underlying5
  a5 := Tryz.isAgg5
  z5 := Tryz.sizeOf5
  v5 := Tryz.zeroValue5
  t9 := Tryz.underlying9
  a9 := Tryz.isAgg9
  z9 := Tryz.sizeOf9
  v9 := Tryz.zeroValue9
  t20 := Tryz.underlying20
  a20 := Tryz.isAgg20
  z20 := Tryz.sizeOf20
  v20 := Tryz.zeroValue20
  t37 := Tryz.underlying51
  a37 := Tryz.isAgg51
  z37 := Tryz.sizeOf51
  v37 := Tryz.zeroValue51
  t46 := Tryz.underlying113
  a46 := Tryz.isAgg113
  z46 := Tryz.sizeOf113
  v46 := Tryz.zeroValue113
  t51 := Tryz.underlying167
  a51 := Tryz.isAgg167
  z51 := Tryz.sizeOf167
  v51 := Tryz.zeroValue167
  t53 := Tryz.underlying84
  a53 := Tryz.isAgg84
  z53 := Tryz.sizeOf84
  v53 := Tryz.zeroValue84
  t171 := Tryz.underlying149
  a171 := Tryz.isAgg149
  z171 := Tryz.sizeOf149
  v171 := Tryz.zeroValue149
  t173 := Tryz.underlying152
  a173 := Tryz.isAgg152
  z173 := Tryz.sizeOf152
  v173 := Tryz.zeroValue152
  t212 := Tryz.underlying166
  a212 := Tryz.isAgg166
  z212 := Tryz.sizeOf166
  v212 := Tryz.zeroValue166
  t213 := Tryz.underlying168
  a213 := Tryz.isAgg168
  z213 := Tryz.sizeOf168
  t232 := Tryz.underlying184
  a232 := Tryz.isAgg184
  z232 := Tryz.sizeOf184
  v232 := Tryz.zeroValue184
  t233 := Tryz.underlying185
  a233 := Tryz.isAgg185
  z233 := Tryz.sizeOf185
  v233 := Tryz.zeroValue185
  g17 := by kernel_rfl
  g18 := by kernel_rfl
  g19 := by kernel_rfl
  i0 := by kernel_rfl
  i2 := by kernel_rfl
  i3 := by kernel_rfl
  i4 := by kernel_rfl
  i5 := by kernel_rfl
  i9 := by kernel_rfl
  i20 := by kernel_rfl
  i37 := by kernel_rfl
  i46 := by kernel_rfl
  i51 := by kernel_rfl
  i53 := by kernel_rfl
  i171 := by kernel_rfl
  i173 := by kernel_rfl
  i212 := by kernel_rfl
  i232 := by kernel_rfl
  i233 := by kernel_rfl
  m17 := by kernel_rfl
  m18 := by kernel_rfl
  m19 := by kernel_rfl }
open Go.RowKit Go.Sort Go.Lib in
theorem Tryz.strconv_Itoa (n : Int) (h0 : -9223372036854775808 ≤ n) (h1 : n ≤ 9223372036854775807) (w : World) (htab : Lib.TabIs Tryz.prog w "internal/strconv.uint64pow10" .u64 Lib.pow10Tab) :
    Calls Tryz.prog 88 #[.int .i64 n] w fun e w' => e = .returned (.string ⟨(Lib.itoa n).toArray⟩) ∧ ∃ k os, w' = grow (w.drewN k) os := Any.strconv_Itoa Tryz.laysM171 n h0 h1 w htab
def Tryz.lays219_ren : Go.Shelf.Ren := ⟨fun | 219 => 136 | 217 => 153 | 225 => 151 | 224 => 150 | 267 => 154 | 266 => 160 | 314 => 161 | n => n, fun | 9 => 9 | 3 => 3 | 4 => 4 | 5 => 5 | 46 => 113 | 146 => 186 | 51 => 167 | n => n, fun | 1 => 3 | n => n⟩
theorem Tryz.lays219 : Go.Proofs.Lays.n219 Tryz.prog Tryz.lays219_ren := {
  mixed := by kernel_rfl
  f217 := Tryz.func153.trans (congrArg some (by kernel_rfl))
  f219 := Tryz.func136.trans (congrArg some (by kernel_rfl))
  f224 := Tryz.func150.trans (congrArg some (by kernel_rfl))
  f225 := Tryz.func151.trans (congrArg some (by kernel_rfl))
  f266 := Tryz.func160.trans (congrArg some (by kernel_rfl))
  f267 := Tryz.func154.trans (congrArg some (by kernel_rfl))
  f314 := Tryz.func161.trans (congrArg some (by kernel_rfl))
  t3 := Tryz.underlying3
  a3 := Tryz.isAgg3
  z3 := Tryz.sizeOf3
  v3 := Tryz.zeroValue3
  t4 := Tryz.underlying4
  a4 := Tryz.isAgg4
  z4 := Tryz.sizeOf4
  v4 := Tryz.zeroValue4
  t5 := Tryz.underlying5
  a5 := Tryz.isAgg5
  z5 := Tryz.sizeOf5
  v5 := Tryz.zeroValue5
  t9 := Tryz.underlying9
  a9 := Tryz.isAgg9
  z9 := Tryz.sizeOf9
  v9 := Tryz.zeroValue9
  t46 := Tryz.underlying113
  a46 := Tryz.isAgg113
  z46 := Tryz.sizeOf113
  v46 := Tryz.zeroValue113
  t51 := Tryz.underlying167
  a51 := Tryz.isAgg167
  z51 := Tryz.sizeOf167
  v51 := Tryz.zeroValue167
  t146 := Tryz.underlying186
  a146 := Tryz.isAgg186
  z146 := Tryz.sizeOf186
  v146 := Tryz.zeroValue186
  g1 := by kernel_rfl }
open Go.RowKit Go.Lib in
theorem Tryz.stringslite_Index_one (s : ByteArray) (c : UInt8) (w : World) :
    Calls Tryz.prog 136 #[.string s, .string ⟨#[c]⟩] w fun e w' => e = .returned (.int .i64 (Lib.indexByte s.data.toList c)) ∧ w' = w := Any.stringslite_Index_one Tryz.lays219 s c w
def Tryz.lays144_ren : Go.Shelf.Ren := ⟨fun | 144 => 145 | 143 => 117 | 219 => 136 | 217 => 153 | 225 => 151 | 224 => 150 | 267 => 154 | 266 => 160 | 314 => 161 | n => n, fun | 9 => 9 | 4 => 4 | 3 => 3 | 5 => 5 | 46 => 113 | 146 => 186 | 51 => 167 | n => n, fun | 1 => 3 | n => n⟩
theorem Tryz.lays144 : Go.Proofs.Lays.n144 Tryz.prog Tryz.lays144_ren := {
  mixed := by kernel_rfl
  f143 := Tryz.func117.trans (congrArg some (by kernel_rfl))
  f144 := Tryz.func145.trans (congrArg some (by kernel_rfl))
  f217 := Tryz.func153.trans (congrArg some (by kernel_rfl))
  f219 := Tryz.func136.trans (congrArg some (by kernel_rfl))
  f224 := Tryz.func150.trans (congrArg some (by kernel_rfl))
  f225 := Tryz.func151.trans (congrArg some (by kernel_rfl))
  f266 := Tryz.func160.trans (congrArg some (by kernel_rfl))
  f267 := Tryz.func154.trans (congrArg some (by kernel_rfl))
  f314 := Tryz.func161.trans (congrArg some (by kernel_rfl))
  t3 := Tryz.underlying3
  a3 := Tryz.isAgg3
  z3 := Tryz.sizeOf3
  v3 := Tryz.zeroValue3
  t4 := Tryz.underlying4
  a4 := Tryz.isAgg4
  z4 := Tryz.sizeOf4
  v4 := Tryz.zeroValue4
  t5 := Tryz.underlying5
  a5 := Tryz.isAgg5
  z5 := Tryz.sizeOf5
  v5 := Tryz.zeroValue5
  t9 := Tryz.underlying9
  a9 := Tryz.isAgg9
  z9 := Tryz.sizeOf9
  v9 := Tryz.zeroValue9
  t46 := Tryz.underlying113
  a46 := Tryz.isAgg113
  z46 := Tryz.sizeOf113
  v46 := Tryz.zeroValue113
  t51 := Tryz.underlying167
  a51 := Tryz.isAgg167
  z51 := Tryz.sizeOf167
  v51 := Tryz.zeroValue167
  t146 := Tryz.underlying186
  a146 := Tryz.isAgg186
  z146 := Tryz.sizeOf186
  v146 := Tryz.zeroValue186
  g1 := by kernel_rfl }
open Go.RowKit Go.Lib in
theorem Tryz.strings_Contains_one (s : ByteArray) (c : UInt8) (w : World) :
    Calls Tryz.prog 145 #[.string s, .string ⟨#[c]⟩] w fun e w' => e = .returned (.bool (decide (0 ≤ Lib.indexByte s.data.toList c))) ∧ w' = w := Any.strings_Contains_one Tryz.lays144 s c w
def Tryz.lays206_ren : Go.Shelf.Ren := ⟨fun | 206 => 159 | n => n, fun | 9 => 9 | 4 => 4 | 3 => 3 | n => n, fun | n => n⟩
def Tryz.lays99_ren : Go.Shelf.Ren := ⟨fun | 99 => 144 | 206 => 159 | n => n, fun | 9 => 9 | 4 => 4 | 3 => 3 | n => n, fun | n => n⟩
theorem Tryz.lays99 : Go.Proofs.Lays.n99 Tryz.prog Tryz.lays99_ren := {
  mixed := by kernel_rfl
  f99 := Tryz.func144.trans (congrArg some (by kernel_rfl))
  f206 := Tryz.func159.trans (congrArg some (by kernel_rfl))
  t3 := Tryz.underlying3
  a3 := Tryz.isAgg3
  z3 := Tryz.sizeOf3
  v3 := Tryz.zeroValue3
  t4 := Tryz.underlying4
  a4 := Tryz.isAgg4
  z4 := Tryz.sizeOf4
  v4 := Tryz.zeroValue4
  t9 := Tryz.underlying9
  a9 := Tryz.isAgg9
  z9 := Tryz.sizeOf9
  v9 := Tryz.zeroValue9 }
open Go.RowKit Go.Lib in
theorem Tryz.strings_HasPrefix (s p : ByteArray) (w : World) :
    Calls Tryz.prog 144 #[.string s, .string p] w fun e w' => e = .returned (.bool (Lib.hasPrefix s.data.toList p.data.toList)) ∧ w' = w := Any.strings_HasPrefix Tryz.lays99 s p w
def Tryz.lays154_ren : Go.Shelf.Ren := ⟨fun | 154 => 103 | 138 => 115 | 165 => 116 | 143 => 117 | 166 => 56 | 197 => 94 | 169 => 33 | 195 => 126 | 218 => 134 | 240 => 81 | 241 => 135 | 219 => 136 | 260 => 105 | 276 => 97 | 277 => 152 | 217 => 153 | 225 => 151 | 224 => 150 | 267 => 154 | 266 => 160 | 314 => 161 | n => n, fun | 9 => 9 | 3 => 3 | 4 => 4 | 72 => 72 | 0 => 0 | 76 => 101 | 105 => 127 | 21 => 21 | 5 => 5 | 70 => 70 | 20 => 20 | 37 => 51 | 75 => 100 | 127 => 108 | 164 => 135 | 46 => 113 | 119 => 158 | 139 => 161 | 138 => 160 | 146 => 186 | 51 => 167 | 80 => 56 | n => n, fun | 1 => 3 | 3 => 0 | 4 => 1 | n => n⟩
def Tryz.lays155_ren : Go.Shelf.Ren := ⟨fun | 155 => 85 | 154 => 103 | 138 => 115 | 165 => 116 | 143 => 117 | 166 => 56 | 197 => 94 | 169 => 33 | 195 => 126 | 218 => 134 | 240 => 81 | 241 => 135 | 219 => 136 | 260 => 105 | 276 => 97 | 277 => 152 | 217 => 153 | 225 => 151 | 224 => 150 | 267 => 154 | 266 => 160 | 314 => 161 | n => n, fun | 9 => 9 | 3 => 3 | 4 => 4 | 72 => 72 | 0 => 0 | 76 => 101 | 105 => 127 | 21 => 21 | 5 => 5 | 70 => 70 | 20 => 20 | 37 => 51 | 75 => 100 | 127 => 108 | 164 => 135 | 46 => 113 | 119 => 158 | 139 => 161 | 138 => 160 | 146 => 186 | 51 => 167 | 80 => 56 | n => n, fun | 1 => 3 | 3 => 0 | 4 => 1 | n => n⟩
theorem Tryz.lays155 : Go.Proofs.Lays.n155 Tryz.prog Tryz.lays155_ren := {
  mixed := by kernel_rfl
  f138 := Tryz.func115.trans (congrArg some (by kernel_rfl))
  f143 := Tryz.func117.trans (congrArg some (by kernel_rfl))
  f154 := Tryz.func103.trans (congrArg some (by kernel_rfl))
  f155 := Tryz.func85.trans (congrArg some (by kernel_rfl))
  f165 := Tryz.func116.trans (congrArg some (by kernel_rfl))
  f166 := Tryz.func56.trans (congrArg some (by kernel_rfl))
  f169 := Tryz.func33.trans (congrArg some (by kernel_rfl))
  f195 := Tryz.func126.trans (congrArg some (by kernel_rfl))
  f197 := Tryz.func94.trans (congrArg some (by kernel_rfl))
  f217 := Tryz.func153.trans (congrArg some (by kernel_rfl))
  f218 := Tryz.func134.trans (congrArg some (by kernel_rfl))
  f219 := Tryz.func136.trans (congrArg some (by kernel_rfl))
  f224 := Tryz.func150.trans (congrArg some (by kernel_rfl))
  f225 := Tryz.func151.trans (congrArg some (by kernel_rfl))
  f240 := Tryz.func81.trans (congrArg some (by kernel_rfl))
  f241 := Tryz.func135.trans (congrArg some (by kernel_rfl))
  f260 := Tryz.func105.trans (congrArg some (by kernel_rfl))
  f266 := Tryz.func160.trans (congrArg some (by kernel_rfl))
  f267 := Tryz.func154.trans (congrArg some (by kernel_rfl))
  f276 := Tryz.func97.trans (congrArg some (by kernel_rfl))
  f277 := Tryz.func152.trans (congrArg some (by kernel_rfl))
  f314 := Tryz.func161.trans (congrArg some (by kernel_rfl))
  t0 := Tryz.underlying0
  a0 := Tryz.isAgg0
  z0 := Tryz.sizeOf0
  v0 := Tryz.zeroValue0
  t3 := Tryz.underlying3
  a3 := Tryz.isAgg3
  z3 := Tryz.sizeOf3
  v3 := Tryz.zeroValue3
  t4 := Tryz.underlying4
  a4 := Tryz.isAgg4
  z4 := Tryz.sizeOf4
  v4 := Tryz.zeroValue4
  t5 := Tryz.underlying5
  a5 := Tryz.isAgg5
  z5 := Tryz.sizeOf5
  v5 := Tryz.zeroValue5
  t9 := Tryz.underlying9
  a9 := Tryz.isAgg9
  z9 := Tryz.sizeOf9
  v9 := Tryz.zeroValue9
  t20 := Tryz.underlying20
  a20 := Tryz.isAgg20
  z20 := Tryz.sizeOf20
  v20 := Tryz.zeroValue20
  t21 := Tryz.underlying21
  a21 := Tryz.isAgg21
  z21 := Tryz.sizeOf21
  v21 := Tryz.zeroValue21
  t37 := Tryz.underlying51
  a37 := Tryz.isAgg51
  z37 := Tryz.sizeOf51
  v37 := Tryz.zeroValue51
  t46 := Tryz.underlying113
  a46 := Tryz.isAgg113
  z46 := Tryz.sizeOf113
  v46 := Tryz.zeroValue113
  t51 := Tryz.underlying167
  a51 := Tryz.isAgg167
  z51 := Tryz.sizeOf167
  v51 := Tryz.zeroValue167
  t70 := Tryz.underlying70
  a70 := Tryz.isAgg70
  z70 := Tryz.sizeOf70
  v70 := Tryz.zeroValue70
  t72 := Tryz.underlying72
  a72 := Tryz.isAgg72
  z72 := Tryz.sizeOf72
  v72 := Tryz.zeroValue72
  t75 := Tryz.underlying100
  a75 := Tryz.isAgg100
  z75 := Tryz.sizeOf100
  v75 := Tryz.zeroValue100
  t76 := Tryz.underlying101
  a76 := Tryz.isAgg101
  z76 := Tryz.sizeOf101
  v76 := Tryz.zeroValue101
  t105 := Tryz.underlying127
  a105 := Tryz.isAgg127
  z105 := Tryz.sizeOf127
  v105 := Tryz.zeroValue127
  t119 := Tryz.underlying158
  a119 := Tryz.isAgg158
  z119 := Tryz.sizeOf158
  t127 := Tryz.underlying108
  a127 := Tryz.isAgg108
  z127 := Tryz.sizeOf108
  v127 := Tryz.zeroValue108
  t138 := Tryz.underlying160
  a138 := Tryz.isAgg160
  z138 := Tryz.sizeOf160
  v138 := Tryz.zeroValue160
  t139 := Tryz.underlying161
  a139 := Tryz.isAgg161
  z139 := Tryz.sizeOf161
  v139 := Tryz.zeroValue161
  t146 := Tryz.underlying186
  a146 := Tryz.isAgg186
  z146 := Tryz.sizeOf186
  v146 := Tryz.zeroValue186
  t164 := Tryz.underlying135
  a164 := Tryz.isAgg135
  z164 := Tryz.sizeOf135
  v164 := Tryz.zeroValue135
  g1 := by kernel_rfl
  g3 := by kernel_rfl
  g4 := by kernel_rfl }
theorem Tryz.Builder_Extra_155 : Builder.Extra Tryz.prog Tryz.lays155_ren := {
  sizeBuilder := by kernel_rfl
  liesBuilder := by kernel_rfl
  t5 := Tryz.underlying5
  a5 := Tryz.isAgg5
  z5 := Tryz.sizeOf5
  v5 := Tryz.zeroValue5
  infoByte := by kernel_rfl
  cellsByte := by kernel_rfl
  sizeByte := by kernel_rfl
  neB5 := by decide }
open Go.RowKit Go.Lib in
theorem Tryz.strings_ReplaceAll (s old new : ByteArray) (m : Int) (w : World) (hs : s.size < 4294967281) (hm : w.cell? ⟨3, 0, none⟩ = some (.int .i64 m)) (h1 : 1 ≤ old.size) (hlen : s.size + Lib.countB s old * new.size ≤ 140737488355328) :
    Calls Tryz.prog 85 #[.string s, .string old, .string new] w fun e w' =>
      e = .returned (.string ⟨(Lib.replaceAll s.data.toList old.data.toList new.data.toList).toArray⟩) ∧ Below w.heap.size w w' := Any.strings_ReplaceAll Tryz.lays155 Tryz.Builder_Extra_155 s old new m w hs hm h1 hlen
def Tryz.laysM155_ren : Go.Shelf.Ren := ⟨fun | 155 => 85 | 154 => 103 | 138 => 115 | 165 => 116 | 143 => 117 | 166 => 56 | 197 => 94 | 169 => 33 | 195 => 126 | 218 => 134 | 240 => 81 | 241 => 135 | 219 => 136 | 260 => 105 | 276 => 97 | 277 => 152 | 217 => 153 | 225 => 151 | 224 => 150 | 267 => 154 | 266 => 160 | 314 => 161 | n => n, fun | 9 => 9 | 3 => 3 | 4 => 4 | 72 => 72 | 0 => 0 | 76 => 101 | 105 => 127 | 21 => 21 | 5 => 5 | 70 => 70 | 20 => 20 | 37 => 51 | 75 => 100 | 127 => 108 | 164 => 135 | 46 => 113 | 119 => 158 | 139 => 161 | 138 => 160 | 146 => 186 | 51 => 167 | 80 => 56 | n => n, fun | 1 => 3 | 3 => 0 | 4 => 1 | n => n⟩
theorem Tryz.laysM155 : Go.Proofs.LaysM.n155 Tryz.prog Tryz.laysM155_ren := {
  mixed := by kernel_rfl
  f138 := Tryz.func115.trans (congrArg some (by kernel_rfl))
  f143 := Tryz.func117.trans (congrArg some (by kernel_rfl))
  f154 := Tryz.func103.trans (congrArg some (by kernel_rfl))
  f155 := Tryz.func85.trans (congrArg some (by kernel_rfl))
  f165 := Tryz.func116.trans (congrArg some (by kernel_rfl))
  f166 := Tryz.func56.trans (congrArg some (by kernel_rfl))
  f169 := Tryz.func33.trans (congrArg some (by kernel_rfl))
  f195 := Tryz.func126.trans (congrArg some (by kernel_rfl))
  f197 := Tryz.func94.trans (congrArg some (by kernel_rfl))
  f217 := Tryz.func153.trans (congrArg some (by kernel_rfl))
  f218 := Tryz.func134.trans (congrArg some (by kernel_rfl))
  f219 := Tryz.func136.trans (congrArg some (by kernel_rfl))
  f224 := Tryz.func150.trans (congrArg some (by kernel_rfl))
  f225 := Tryz.func151.trans (congrArg some (by kernel_rfl))
  f240 := Tryz.func81.trans (congrArg some (by kernel_rfl))
  f241 := Tryz.func135.trans (congrArg some (by kernel_rfl))
  f260 := Tryz.func105.trans (congrArg some (by kernel_rfl))
  f266 := Tryz.func160.trans (congrArg some (by kernel_rfl))
  f267 := Tryz.func154.trans (congrArg some (by kernel_rfl))
  f276 := Tryz.func97.trans (congrArg some (by kernel_rfl))
  f277 := Tryz.func152.trans (congrArg some (by kernel_rfl))
  f314 := Tryz.func161.trans (congrArg some (by kernel_rfl))
  t0 := Tryz.underlying0
  a0 := Tryz.isAgg0
  z0 := Tryz.sizeOf0
  v0 := Tryz.zeroValue0
  t3 := Tryz.underlying3
  a3 := Tryz.isAgg3
  z3 := Tryz.sizeOf3
  v3 := Tryz.zeroValue3
  t4 := Tryz.underlying4
  a4 := Tryz.isAgg4
  z4 := Tryz.sizeOf4
  v4 := Tryz.zeroValue4
  t5 := Tryz.underlying5
  a5 := Tryz.isAgg5
  z5 := Tryz.sizeOf5
  v5 := Tryz.zeroValue5
  t9 := Tryz.underlying9
  a9 := Tryz.isAgg9
  z9 := Tryz.sizeOf9
  v9 := Tryz.zeroValue9
  t20 := Tryz.underlying20
  a20 := Tryz.isAgg20
  z20 := Tryz.sizeOf20
  v20 := Tryz.zeroValue20
  t21 := Tryz.underlying21
  a21 := Tryz.isAgg21
  z21 := Tryz.sizeOf21
  v21 := Tryz.zeroValue21
  t37 := Tryz.underlying51
  a37 := Tryz.isAgg51
  z37 := Tryz.sizeOf51
  v37 := Tryz.zeroValue51
  t46 := Tryz.underlying113
  a46 := Tryz.isAgg113
  z46 := Tryz.sizeOf113
  v46 := Tryz.zeroValue113
  t51 := Tryz.underlying167
  a51 := Tryz.isAgg167
  z51 := Tryz.sizeOf167
  v51 := Tryz.zeroValue167
  t70 := Tryz.underlying70
  a70 := Tryz.isAgg70
  z70 := Tryz.sizeOf70
  v70 := Tryz.zeroValue70
  t72 := Tryz.underlying72
  a72 := Tryz.isAgg72
  z72 := Tryz.sizeOf72
  v72 := Tryz.zeroValue72
  t75 := Tryz.underlying100
  a75 := Tryz.isAgg100
  z75 := Tryz.sizeOf100
  v75 := Tryz.zeroValue100
  t76 := Tryz.underlying101
  a76 := Tryz.isAgg101
  z76 := Tryz.sizeOf101
  v76 := Tryz.zeroValue101
  t105 := Tryz.underlying127
  a105 := Tryz.isAgg127
  z105 := Tryz.sizeOf127
  v105 := Tryz.zeroValue127
  t119 := Tryz.underlying158
  a119 := Tryz.isAgg158
  z119 := Tryz.sizeOf158
  t127 := Tryz.underlying108
  a127 := Tryz.isAgg108
  z127 := Tryz.sizeOf108
  v127 := Tryz.zeroValue108
  t138 := Tryz.underlying160
  a138 := Tryz.isAgg160
  z138 := Tryz.sizeOf160
  v138 := Tryz.zeroValue160
  t139 := Tryz.underlying161
  a139 := Tryz.isAgg161
  z139 := Tryz.sizeOf161
  v139 := Tryz.zeroValue161
  t146 := Tryz.underlying186
  a146 := Tryz.isAgg186
  z146 := Tryz.sizeOf186
  v146 := Tryz.zeroValue186
  t164 := Tryz.underlying135
  a164 := Tryz.isAgg135
  z164 := Tryz.sizeOf135
  v164 := Tryz.zeroValue135
  g1 := by kernel_rfl
  g3 := by kernel_rfl
  g4 := by kernel_rfl
  t80 := Tryz.underlying56
  a80 := Tryz.isAgg56
  z80 := Tryz.sizeOf56
  v80 := Tryz.zeroValue56
  i0 := by kernel_rfl
  i3 := by kernel_rfl
  i4 := by kernel_rfl
  i5 := by kernel_rfl
  i9 := by kernel_rfl
  i20 := by kernel_rfl
  i21 := by kernel_rfl
  i37 := by kernel_rfl
  i46 := by kernel_rfl
  i51 := by kernel_rfl
  i70 := by kernel_rfl
  i72 := by kernel_rfl
  i75 := by kernel_rfl
  i76 := by kernel_rfl
  i80 := by kernel_rfl
  i105 := by kernel_rfl
  i127 := by kernel_rfl
  i138 := by kernel_rfl
  i139 := by kernel_rfl
  i146 := by kernel_rfl
  i164 := by kernel_rfl
  m1 := by kernel_rfl
  s1_3 := fun w h => Go.Proofs.cell_of_shapedOpen_int (zero := #[.int .i64 0]) (t := 3) h (of_decide_eq_true (by kernel_rfl)) (by kernel_rfl) rfl (by kernel_rfl) (by kernel_rfl) Tryz.underlying3
  m3 := by kernel_rfl
  m4 := by kernel_rfl }
def Tryz.lays260_ren : Go.Shelf.Ren := ⟨fun | 260 => 105 | n => n, fun | 9 => 9 | 21 => 21 | 3 => 3 | 4 => 4 | 5 => 5 | 119 => 158 | 0 => 0 | 46 => 113 | 139 => 161 | 138 => 160 | n => n, fun | 3 => 0 | 4 => 1 | n => n⟩
theorem Tryz.lays260 : Go.Proofs.Lays.n260 Tryz.prog Tryz.lays260_ren := {
  mixed := by kernel_rfl
  f260 := Tryz.func105.trans (congrArg some (by kernel_rfl))
  t0 := Tryz.underlying0
  a0 := Tryz.isAgg0
  z0 := Tryz.sizeOf0
  v0 := Tryz.zeroValue0
  t3 := Tryz.underlying3
  a3 := Tryz.isAgg3
  z3 := Tryz.sizeOf3
  v3 := Tryz.zeroValue3
  t4 := Tryz.underlying4
  a4 := Tryz.isAgg4
  z4 := Tryz.sizeOf4
  v4 := Tryz.zeroValue4
  t5 := Tryz.underlying5
  a5 := Tryz.isAgg5
  z5 := Tryz.sizeOf5
  v5 := Tryz.zeroValue5
  t9 := Tryz.underlying9
  a9 := Tryz.isAgg9
  z9 := Tryz.sizeOf9
  v9 := Tryz.zeroValue9
  t21 := Tryz.underlying21
  a21 := Tryz.isAgg21
  z21 := Tryz.sizeOf21
  v21 := Tryz.zeroValue21
  t46 := Tryz.underlying113
  a46 := Tryz.isAgg113
  z46 := Tryz.sizeOf113
  v46 := Tryz.zeroValue113
  t119 := Tryz.underlying158
  a119 := Tryz.isAgg158
  z119 := Tryz.sizeOf158
  t138 := Tryz.underlying160
  a138 := Tryz.isAgg160
  z138 := Tryz.sizeOf160
  v138 := Tryz.zeroValue160
  t139 := Tryz.underlying161
  a139 := Tryz.isAgg161
  z139 := Tryz.sizeOf161
  v139 := Tryz.zeroValue161
  g3 := by kernel_rfl
  g4 := by kernel_rfl }
def Tryz.lays197_ren : Go.Shelf.Ren := ⟨fun | 197 => 94 | 260 => 105 | n => n, fun | 9 => 9 | 21 => 21 | 3 => 3 | 4 => 4 | 5 => 5 | 105 => 127 | 119 => 158 | 0 => 0 | 46 => 113 | 139 => 161 | 138 => 160 | n => n, fun | 3 => 0 | 4 => 1 | n => n⟩
theorem Tryz.lays197 : Go.Proofs.Lays.n197 Tryz.prog Tryz.lays197_ren := {
  mixed := by kernel_rfl
  f197 := Tryz.func94.trans (congrArg some (by kernel_rfl))
  f260 := Tryz.func105.trans (congrArg some (by kernel_rfl))
  t0 := Tryz.underlying0
  a0 := Tryz.isAgg0
  z0 := Tryz.sizeOf0
  v0 := Tryz.zeroValue0
  t3 := Tryz.underlying3
  a3 := Tryz.isAgg3
  z3 := Tryz.sizeOf3
  v3 := Tryz.zeroValue3
  t4 := Tryz.underlying4
  a4 := Tryz.isAgg4
  z4 := Tryz.sizeOf4
  v4 := Tryz.zeroValue4
  t5 := Tryz.underlying5
  a5 := Tryz.isAgg5
  z5 := Tryz.sizeOf5
  v5 := Tryz.zeroValue5
  t9 := Tryz.underlying9
  a9 := Tryz.isAgg9
  z9 := Tryz.sizeOf9
  v9 := Tryz.zeroValue9
  t21 := Tryz.underlying21
  a21 := Tryz.isAgg21
  z21 := Tryz.sizeOf21
  v21 := Tryz.zeroValue21
  t46 := Tryz.underlying113
  a46 := Tryz.isAgg113
  z46 := Tryz.sizeOf113
  v46 := Tryz.zeroValue113
  t105 := Tryz.underlying127
  a105 := Tryz.isAgg127
  z105 := Tryz.sizeOf127
  v105 := Tryz.zeroValue127
  t119 := Tryz.underlying158
  a119 := Tryz.isAgg158
  z119 := Tryz.sizeOf158
  t138 := Tryz.underlying160
  a138 := Tryz.isAgg160
  z138 := Tryz.sizeOf160
  v138 := Tryz.zeroValue160
  t139 := Tryz.underlying161
  a139 := Tryz.isAgg161
  z139 := Tryz.sizeOf161
  v139 := Tryz.zeroValue161
  g3 := by kernel_rfl
  g4 := by kernel_rfl }
open Go.RowKit Go.Lib in
theorem Tryz.utf8_DecodeRuneInString (s : ByteArray) (w : World) (hT : Lib.Utf8Tabs 0 1 w) :
    Calls Tryz.prog 94 #[.string s] w fun e w' => e = .returned (.tuple #[.int .i32 (Lib.decodeGo s).1, .int .i64 (Lib.decodeGo s).2]) ∧ Below w.heap.size w w' := Any.utf8_DecodeRuneInString Tryz.lays197 s w hT
end Go.Proofs
namespace Go.A
open Go.Proofs
set_option linter.unusedSimpArgs false
set_option linter.unusedVariables false
section
variable {P : Program} {σ : ASt} {w : World}
theorem reps_ints {k : IntKind} : ∀ {zs : List Int} {vs : List Value}, Reps σ w (zs.map (AV.int k)) vs → vs = zs.map (Value.int k)
  | [], vs, h => by cases h; rfl
  | z :: zs, vs, h => by
    cases h with
    | cons h1 h2 =>
      cases h1
      rw [reps_ints h2]
      rfl
theorem tabIs_of (hs : Sim σ w) {name : String} {b : Nat} {k : IntKind} {zs : List Int} (hg : P.globalNamed name = some b) (hb : σ b = some (.fix (zs.map (AV.int k)))) : Lib.TabIs P w name k zs := by
  obtain ⟨h1, c, T, fr, h2, h3⟩ := hs b _ hb
  obtain ⟨vs, h4, h5⟩ := h1.vals
  have h6 := reps_ints h4
  subst h6
  unfold Lib.TabIs World.var?
  rw [hg, Option.bind_some]
  simp only [h2]
  congr 1
  apply Array.ext
  · simp [h3]
  · intro j hj hj'
    have h7 := h5 j (Value.int k (zs[j]'(by simpa using hj'))) (by simp)
    simp only [World.cell?, h2, Nat.zero_add] at h7
    simp at h7 ⊢
    obtain ⟨_, h7⟩ := Array.getElem?_eq_some_iff.1 h7
    exact h7
theorem ACalls.of_ext {f : FuncId} {args : List AV} {r : AV} {u : Value} (h : ∀ w vs, Sim σ w → Reps σ w args vs → Calls P f ⟨vs⟩ w fun e w' => e = .returned u ∧ Ext w w') (hr : ∀ w, Rep σ w r u) : ACalls P f args σ fun v σ' => v = r ∧ σ' = σ :=
  fun w vs hs ha => (h w vs hs ha).mono fun e w' ⟨he, hx⟩ => ⟨u, r, σ, he, ⟨rfl, rfl⟩, ext_le hx, hs.ext hx, hr w'⟩
theorem ext_grow (w : World) (k : Nat) (os : Array Obj) : Ext w (Go.Sort.grow (w.drewN k) os) := ⟨⟨os, w.drawn + k⟩, rfl⟩
end
theorem Ext.of_eq {w w' : World} (h : w' = w) : Ext w w' := h ▸ Ext.refl w
def Tab (σ : ASt) : Prop := σ 2 = some (.fix (Lib.pow10Tab.map (AV.int .u64)))
theorem Tab.set {σ : ASt} {b : Nat} {r : Option Role} (h : Tab σ) (hb : σ b = none) : Tab (σ.set b r) := by
  unfold Tab at *
  rw [ASt.set_ne]
  · exact h
  · intro e; rw [← e, h] at hb; cases hb
end Go.A
namespace Go.A
open Go.Proofs
theorem itoa_ok {σ : ASt} (h : Tab σ) {n : Int} (h0 : -9223372036854775808 ≤ n) (h1 : n ≤ 9223372036854775807) : ACalls Tryz.prog 88 [.int .i64 n] σ fun v σ' => v = .str (Lib.itoa n) ∧ σ' = σ := by
  refine ACalls.of_ext (u := .string ⟨(Lib.itoa n).toArray⟩) (fun w vs hs ha => ?_) fun w => .str _
  cases ha with
  | cons h2 h3 =>
    cases h2; cases h3
    refine (Tryz.strconv_Itoa n h0 h1 w (tabIs_of hs (by kernel_rfl) h)).mono ?_
    rintro e w' ⟨he, k, os, rfl⟩
    exact ⟨he, ext_grow w k os⟩
end Go.A
