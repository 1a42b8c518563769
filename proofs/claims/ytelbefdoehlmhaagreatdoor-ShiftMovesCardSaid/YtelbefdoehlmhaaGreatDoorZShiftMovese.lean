/- Part 5 of what ShiftMoves leans on: CodeGa Ga CodeGb Gb CodeGc Gc CodeGd Gd Gp Wc CodeH Tg Za Ea. -/
import Derived.Test.YtelbefdoehlmhaaGreatDoorProg
import Derived.KernelRfl
import Derived.Lib.ItoaNum
import Derived.Lib.MapLaws
import Derived.Lib.RuneCount
import Derived.Test.YtelbefdoehlmhaaGreatDoorZShiftMovesd
namespace Go.A
open Go.Proofs
/-! 34: (tabular/addr.Ref).Moved -/
def c34_0 : ACode := .ops [
 ⟨some 3, none, .e (.box (.t 0)), []⟩,
 ⟨some 6, none, .e (.alloc [(.int .i64 0), (.int .i64 0), (.bool false), (.bool false)]), []⟩,
 ⟨some 7, none, .q (.mv (.v (.bool false))), []⟩]
def c34_1 : ACode := .ops [
 ⟨some 8, none, .q (.mv (.t 1)), []⟩,
 ⟨some 9, none, .q (.bin .leq (.t 8) (.v (.int .i64 (-3000)))), []⟩,
 ⟨some 10, none, .q (.mv (.t 9)), []⟩,
 ⟨some 11, some (10, false), .q (.mv (.t 1)), []⟩,
 ⟨some 12, some (10, false), .q (.bin .geq (.t 11) (.v (.int .i64 3000))), []⟩,
 ⟨some 13, none, .q (.pick (.t 10) (.v (.bool true)) (.t 12)), []⟩,
 ⟨some 14, none, .q (.mv (.t 13)), []⟩,
 ⟨some 15, some (14, false), .q (.mv (.t 2)), []⟩,
 ⟨some 16, some (14, false), .q (.bin .leq (.t 15) (.v (.int .i64 (-700)))), []⟩,
 ⟨some 17, none, .q (.pick (.t 14) (.v (.bool true)) (.t 16)), []⟩,
 ⟨some 18, none, .q (.mv (.t 17)), []⟩,
 ⟨some 19, some (18, false), .q (.mv (.t 2)), []⟩,
 ⟨some 20, some (18, false), .q (.bin .geq (.t 19) (.v (.int .i64 700))), []⟩,
 ⟨some 21, none, .q (.pick (.t 18) (.v (.bool true)) (.t 20)), []⟩]
def c34_2 : ACode := .ops [
 ⟨some 22, none, .q (.fa 2 (.t 3)), []⟩,
 ⟨some 23, none, .q (.ld none (.t 22)), []⟩,
 ⟨some 24, none, .q (.un .not (.t 23)), []⟩,
 ⟨some 25, none, .q (.mv (.t 24)), []⟩,
 ⟨some 26, some (25, true), .q (.mv (.t 1)), []⟩,
 ⟨some 27, some (25, true), .q (.bin .leq (.t 26) (.v (.int .i64 (-3000)))), []⟩,
 ⟨some 28, some (25, true), .q (.mv (.t 27)), []⟩,
 ⟨some 29, some (28, false), .q (.mv (.t 1)), []⟩,
 ⟨some 30, some (28, false), .q (.bin .geq (.t 29) (.v (.int .i64 3000))), []⟩,
 ⟨some 31, some (25, true), .q (.pick (.t 28) (.v (.bool true)) (.t 30)), []⟩,
 ⟨some 32, none, .q (.pick (.t 25) (.t 31) (.v (.bool false))), []⟩,
 ⟨some 33, none, .q (.mv (.t 32)), []⟩,
 ⟨some 34, some (33, false), .q (.fa 3 (.t 3)), []⟩,
 ⟨some 35, some (33, false), .q (.ld none (.t 34)), []⟩,
 ⟨some 36, some (33, false), .q (.un .not (.t 35)), []⟩,
 ⟨some 37, some (33, false), .q (.mv (.t 36)), []⟩,
 ⟨some 38, some (37, true), .q (.mv (.t 2)), []⟩,
 ⟨some 39, some (37, true), .q (.bin .leq (.t 38) (.v (.int .i64 (-700)))), []⟩,
 ⟨some 40, some (37, true), .q (.mv (.t 39)), []⟩,
 ⟨some 41, some (40, false), .q (.mv (.t 2)), []⟩,
 ⟨some 42, some (40, false), .q (.bin .geq (.t 41) (.v (.int .i64 700))), []⟩,
 ⟨some 43, some (37, true), .q (.pick (.t 40) (.v (.bool true)) (.t 42)), []⟩,
 ⟨some 44, some (33, false), .q (.pick (.t 37) (.t 43) (.v (.bool false))), []⟩,
 ⟨some 45, none, .q (.pick (.t 33) (.v (.bool true)) (.t 44)), []⟩]
def c34_3 : ACode := .ops [
 ⟨some 46, none, .q (.build [(.int .i64 0), (.int .i64 0), (.bool false), (.bool false)] []), []⟩,
 ⟨none, none, .e (.store 4 (.t 6) (.t 46)), []⟩,
 ⟨some 7, none, .q (.mv (.v (.bool false))), []⟩]
def c34_4 : ACode := .seq c34_3 .ret
def c34_5 : ACode := .cond (.t 45) c34_4 .skip
def c34_6 : ACode := .seq c34_2 c34_5
def c34_7 : ACode := .cond (.t 21) c34_6 .skip
def c34_8 : ACode := .seq c34_1 c34_7
def c34_9 : ACode := .ops [
 ⟨some 47, none, .q (.fa 2 (.t 3)), []⟩,
 ⟨some 48, none, .q (.ld none (.t 47)), []⟩,
 ⟨some 49, none, .q (.un .not (.t 48)), []⟩]
def c34_10 : ACode := .ops [
 ⟨some 50, none, .q (.fa 0 (.t 3)), []⟩,
 ⟨some 51, none, .q (.ld none (.t 50)), []⟩,
 ⟨some 52, none, .q (.mv (.t 1)), []⟩,
 ⟨some 53, none, .q (.bin .add (.t 51) (.t 52)), []⟩,
 ⟨some 54, none, .q (.fa 0 (.t 3)), []⟩,
 ⟨none, none, .e (.store 1 (.t 54) (.t 53)), []⟩]
def c34_11 : ACode := .cond (.t 49) c34_10 .skip
def c34_12 : ACode := .seq c34_9 c34_11
def c34_13 : ACode := .ops [
 ⟨some 55, none, .q (.fa 3 (.t 3)), []⟩,
 ⟨some 56, none, .q (.ld none (.t 55)), []⟩,
 ⟨some 57, none, .q (.un .not (.t 56)), []⟩]
def c34_14 : ACode := .ops [
 ⟨some 58, none, .q (.fa 1 (.t 3)), []⟩,
 ⟨some 59, none, .q (.ld none (.t 58)), []⟩,
 ⟨some 60, none, .q (.mv (.t 2)), []⟩,
 ⟨some 61, none, .q (.bin .add (.t 59) (.t 60)), []⟩,
 ⟨some 62, none, .q (.fa 1 (.t 3)), []⟩,
 ⟨none, none, .e (.store 1 (.t 62) (.t 61)), []⟩]
def c34_15 : ACode := .cond (.t 57) c34_14 .skip
def c34_16 : ACode := .seq c34_13 c34_15
def c34_17 : ACode := .ops [
 ⟨some 63, none, .q (.ld (some 4) (.t 3)), []⟩,
 ⟨some 64, none, .e (.call 54 [(.t 63)]), []⟩,
 ⟨some 65, none, .q (.un .not (.t 64)), []⟩]
def c34_18 : ACode := .ops [
 ⟨some 66, none, .q (.build [(.int .i64 0), (.int .i64 0), (.bool false), (.bool false)] []), []⟩,
 ⟨none, none, .e (.store 4 (.t 6) (.t 66)), []⟩,
 ⟨some 7, none, .q (.mv (.v (.bool false))), []⟩]
def c34_19 : ACode := .seq c34_18 .ret
def c34_20 : ACode := .cond (.t 65) c34_19 .skip
def c34_21 : ACode := .seq c34_17 c34_20
def c34_22 : ACode := .ops [
 ⟨some 67, none, .q (.ld (some 4) (.t 3)), []⟩,
 ⟨none, none, .e (.store 4 (.t 6) (.t 67)), []⟩,
 ⟨some 7, none, .q (.mv (.v (.bool true))), []⟩]
def c34_23 : ACode := .seq c34_22 .ret
def c34_24 : ACode := .seq c34_21 c34_23
def c34_25 : ACode := .seq c34_16 c34_24
def c34_26 : ACode := .seq c34_12 c34_25
def c34_27 : ACode := .seq c34_8 c34_26
def c34_28 : ACode := .seq c34_0 c34_27
@[go_sem] theorem c34_0_wp : type_of% (wp_of c34_0.eq_1) := wp_of c34_0.eq_1
@[go_sem] theorem c34_1_wp : type_of% (wp_of c34_1.eq_1) := wp_of c34_1.eq_1
@[go_sem] theorem c34_2_wp : type_of% (wp_of c34_2.eq_1) := wp_of c34_2.eq_1
@[go_sem] theorem c34_3_wp : type_of% (wp_of c34_3.eq_1) := wp_of c34_3.eq_1
@[go_sem] theorem c34_4_wp : type_of% (wp_of c34_4.eq_1) := wp_of c34_4.eq_1
@[go_sem] theorem c34_5_wp : type_of% (wp_of c34_5.eq_1) := wp_of c34_5.eq_1
@[go_sem] theorem c34_6_wp : type_of% (wp_of c34_6.eq_1) := wp_of c34_6.eq_1
@[go_sem] theorem c34_7_wp : type_of% (wp_of c34_7.eq_1) := wp_of c34_7.eq_1
@[go_sem] theorem c34_8_wp : type_of% (wp_of c34_8.eq_1) := wp_of c34_8.eq_1
@[go_sem] theorem c34_9_wp : type_of% (wp_of c34_9.eq_1) := wp_of c34_9.eq_1
@[go_sem] theorem c34_10_wp : type_of% (wp_of c34_10.eq_1) := wp_of c34_10.eq_1
@[go_sem] theorem c34_11_wp : type_of% (wp_of c34_11.eq_1) := wp_of c34_11.eq_1
@[go_sem] theorem c34_12_wp : type_of% (wp_of c34_12.eq_1) := wp_of c34_12.eq_1
@[go_sem] theorem c34_13_wp : type_of% (wp_of c34_13.eq_1) := wp_of c34_13.eq_1
@[go_sem] theorem c34_14_wp : type_of% (wp_of c34_14.eq_1) := wp_of c34_14.eq_1
@[go_sem] theorem c34_15_wp : type_of% (wp_of c34_15.eq_1) := wp_of c34_15.eq_1
@[go_sem] theorem c34_16_wp : type_of% (wp_of c34_16.eq_1) := wp_of c34_16.eq_1
@[go_sem] theorem c34_17_wp : type_of% (wp_of c34_17.eq_1) := wp_of c34_17.eq_1
@[go_sem] theorem c34_18_wp : type_of% (wp_of c34_18.eq_1) := wp_of c34_18.eq_1
@[go_sem] theorem c34_19_wp : type_of% (wp_of c34_19.eq_1) := wp_of c34_19.eq_1
@[go_sem] theorem c34_20_wp : type_of% (wp_of c34_20.eq_1) := wp_of c34_20.eq_1
@[go_sem] theorem c34_21_wp : type_of% (wp_of c34_21.eq_1) := wp_of c34_21.eq_1
@[go_sem] theorem c34_22_wp : type_of% (wp_of c34_22.eq_1) := wp_of c34_22.eq_1
@[go_sem] theorem c34_23_wp : type_of% (wp_of c34_23.eq_1) := wp_of c34_23.eq_1
@[go_sem] theorem c34_24_wp : type_of% (wp_of c34_24.eq_1) := wp_of c34_24.eq_1
@[go_sem] theorem c34_25_wp : type_of% (wp_of c34_25.eq_1) := wp_of c34_25.eq_1
@[go_sem] theorem c34_26_wp : type_of% (wp_of c34_26.eq_1) := wp_of c34_26.eq_1
@[go_sem] theorem c34_27_wp : type_of% (wp_of c34_27.eq_1) := wp_of c34_27.eq_1
@[go_sem] theorem c34_28_wp : type_of% (wp_of c34_28.eq_1) := wp_of c34_28.eq_1
def c34 : AFn := ⟨68, [.c 6 (some 4), .t 7], c34_28⟩
set_option maxRecDepth 100000 in
theorem c34_ok : compF Tryz.prog Tryz.f34 = some c34 := by kernel_rfl
theorem a34 {args : List AV} {σ : ASt} {R : AV → ASt → Prop} (hl : args.length ≤ 68) (h : c34_28.wp Tryz.prog (RetQ [.c 6 (some 4), .t 7] R) (init args) σ) : ACalls Tryz.prog 34 args σ R := acalls_of Tryz.func34 c34_ok hl h
/-! 54: (tabular/addr.Ref).Good -/
def c54_0 : ACode := .ops [
 ⟨some 1, none, .e (.box (.t 0)), []⟩,
 ⟨some 2, none, .q (.mv (.v (.bool false))), []⟩]
def c54_1 : ACode := .ops [
 ⟨some 3, none, .q (.fa 0 (.t 1)), []⟩,
 ⟨some 4, none, .q (.ld none (.t 3)), []⟩,
 ⟨some 5, none, .q (.bin .geq (.t 4) (.v (.int .i64 0))), []⟩,
 ⟨some 6, none, .q (.mv (.t 5)), []⟩,
 ⟨some 7, some (6, true), .q (.fa 0 (.t 1)), []⟩,
 ⟨some 8, some (6, true), .q (.ld none (.t 7)), []⟩,
 ⟨some 9, some (6, true), .q (.bin .lss (.t 8) (.v (.int .i64 3000))), []⟩,
 ⟨some 10, none, .q (.pick (.t 6) (.t 9) (.v (.bool false))), []⟩,
 ⟨some 11, none, .q (.mv (.t 10)), []⟩,
 ⟨some 12, some (11, true), .q (.fa 1 (.t 1)), []⟩,
 ⟨some 13, some (11, true), .q (.ld none (.t 12)), []⟩,
 ⟨some 14, some (11, true), .q (.bin .geq (.t 13) (.v (.int .i64 0))), []⟩,
 ⟨some 15, none, .q (.pick (.t 11) (.t 14) (.v (.bool false))), []⟩,
 ⟨some 16, none, .q (.mv (.t 15)), []⟩,
 ⟨some 17, some (16, true), .q (.fa 1 (.t 1)), []⟩,
 ⟨some 18, some (16, true), .q (.ld none (.t 17)), []⟩,
 ⟨some 19, some (16, true), .q (.bin .lss (.t 18) (.v (.int .i64 700))), []⟩,
 ⟨some 20, none, .q (.pick (.t 16) (.t 19) (.v (.bool false))), []⟩,
 ⟨some 2, none, .q (.mv (.t 20)), []⟩]
def c54_2 : ACode := .seq c54_1 .ret
def c54_3 : ACode := .seq c54_0 c54_2
@[go_sem] theorem c54_0_wp : type_of% (wp_of c54_0.eq_1) := wp_of c54_0.eq_1
@[go_sem] theorem c54_1_wp : type_of% (wp_of c54_1.eq_1) := wp_of c54_1.eq_1
@[go_sem] theorem c54_2_wp : type_of% (wp_of c54_2.eq_1) := wp_of c54_2.eq_1
@[go_sem] theorem c54_3_wp : type_of% (wp_of c54_3.eq_1) := wp_of c54_3.eq_1
def c54 : AFn := ⟨21, [.t 2], c54_3⟩
set_option maxRecDepth 100000 in
theorem c54_ok : compF Tryz.prog Tryz.f54 = some c54 := by kernel_rfl
theorem a54 {args : List AV} {σ : ASt} {R : AV → ASt → Prop} (hl : args.length ≤ 21) (h : c54_3.wp Tryz.prog (RetQ [.t 2] R) (init args) σ) : ACalls Tryz.prog 54 args σ R := acalls_of Tryz.func54 c54_ok hl h
/-! 143: tabular/addr.letter -/
def c143_0 : ACode := .ops [
 ⟨some 2, none, .q (.mv (.v (.int .i64 0))), []⟩]
def c143_1 : ACode := .ops [
 ⟨some 4, none, .q (.mv (.t 0)), []⟩,
 ⟨some 5, none, .q (.bin .geq (.t 4) (.v (.int .u8 65))), []⟩,
 ⟨some 6, none, .q (.mv (.t 5)), []⟩,
 ⟨some 7, some (6, true), .q (.mv (.t 0)), []⟩,
 ⟨some 8, some (6, true), .q (.bin .leq (.t 7) (.v (.int .u8 90))), []⟩,
 ⟨some 9, none, .q (.pick (.t 6) (.t 8) (.v (.bool false))), []⟩,
 ⟨some 3, none, .q (.mv (.t 9)), []⟩]
def c143_2 : ACode := .ops [
 ⟨some 10, none, .q (.mv (.t 0)), []⟩,
 ⟨some 11, none, .q (.bin .sub (.t 10) (.v (.int .u8 65))), []⟩,
 ⟨some 12, none, .q (.conv .i64 (.t 11)), []⟩,
 ⟨some 13, none, .q (.bin .add (.t 12) (.v (.int .i64 1))), []⟩,
 ⟨some 2, none, .q (.mv (.t 13)), []⟩]
def c143_3 : ACode := .seq c143_2 .ret
def c143_4 : ACode := .ops [
 ⟨some 15, none, .q (.mv (.t 0)), []⟩,
 ⟨some 16, none, .q (.bin .geq (.t 15) (.v (.int .u8 97))), []⟩,
 ⟨some 17, none, .q (.mv (.t 16)), []⟩,
 ⟨some 18, some (17, true), .q (.mv (.t 0)), []⟩,
 ⟨some 19, some (17, true), .q (.bin .leq (.t 18) (.v (.int .u8 122))), []⟩,
 ⟨some 20, none, .q (.pick (.t 17) (.t 19) (.v (.bool false))), []⟩,
 ⟨some 14, none, .q (.mv (.t 20)), []⟩]
def c143_5 : ACode := .ops [
 ⟨some 21, none, .q (.mv (.t 0)), []⟩,
 ⟨some 22, none, .q (.bin .sub (.t 21) (.v (.int .u8 97))), []⟩,
 ⟨some 23, none, .q (.conv .i64 (.t 22)), []⟩,
 ⟨some 24, none, .q (.bin .add (.t 23) (.v (.int .i64 1))), []⟩,
 ⟨some 2, none, .q (.mv (.t 24)), []⟩]
def c143_6 : ACode := .seq c143_5 .ret
def c143_7 : ACode := .cond (.t 14) c143_6 .skip
def c143_8 : ACode := .seq c143_4 c143_7
def c143_9 : ACode := .cond (.t 3) c143_3 c143_8
def c143_10 : ACode := .seq c143_1 c143_9
def c143_11 : ACode := .block 0 c143_10
def c143_12 : ACode := .ops [
 ⟨some 2, none, .q (.mv (.v (.int .i64 0))), []⟩]
def c143_13 : ACode := .seq c143_12 .ret
def c143_14 : ACode := .seq c143_11 c143_13
def c143_15 : ACode := .seq c143_0 c143_14
@[go_sem] theorem c143_0_wp : type_of% (wp_of c143_0.eq_1) := wp_of c143_0.eq_1
@[go_sem] theorem c143_1_wp : type_of% (wp_of c143_1.eq_1) := wp_of c143_1.eq_1
@[go_sem] theorem c143_2_wp : type_of% (wp_of c143_2.eq_1) := wp_of c143_2.eq_1
@[go_sem] theorem c143_3_wp : type_of% (wp_of c143_3.eq_1) := wp_of c143_3.eq_1
@[go_sem] theorem c143_4_wp : type_of% (wp_of c143_4.eq_1) := wp_of c143_4.eq_1
@[go_sem] theorem c143_5_wp : type_of% (wp_of c143_5.eq_1) := wp_of c143_5.eq_1
@[go_sem] theorem c143_6_wp : type_of% (wp_of c143_6.eq_1) := wp_of c143_6.eq_1
@[go_sem] theorem c143_7_wp : type_of% (wp_of c143_7.eq_1) := wp_of c143_7.eq_1
@[go_sem] theorem c143_8_wp : type_of% (wp_of c143_8.eq_1) := wp_of c143_8.eq_1
@[go_sem] theorem c143_9_wp : type_of% (wp_of c143_9.eq_1) := wp_of c143_9.eq_1
@[go_sem] theorem c143_10_wp : type_of% (wp_of c143_10.eq_1) := wp_of c143_10.eq_1
@[go_sem] theorem c143_11_wp : type_of% (wp_of c143_11.eq_1) := wp_of c143_11.eq_1
@[go_sem] theorem c143_12_wp : type_of% (wp_of c143_12.eq_1) := wp_of c143_12.eq_1
@[go_sem] theorem c143_13_wp : type_of% (wp_of c143_13.eq_1) := wp_of c143_13.eq_1
@[go_sem] theorem c143_14_wp : type_of% (wp_of c143_14.eq_1) := wp_of c143_14.eq_1
@[go_sem] theorem c143_15_wp : type_of% (wp_of c143_15.eq_1) := wp_of c143_15.eq_1
def c143 : AFn := ⟨25, [.t 2], c143_15⟩
set_option maxRecDepth 100000 in
theorem c143_ok : compF Tryz.prog Tryz.f143 = some c143 := by kernel_rfl
theorem a143 {args : List AV} {σ : ASt} {R : AV → ASt → Prop} (hl : args.length ≤ 25) (h : c143_15.wp Tryz.prog (RetQ [.t 2] R) (init args) σ) : ACalls Tryz.prog 143 args σ R := acalls_of Tryz.func143 c143_ok hl h
end Go.A
namespace Go.A
open Go.Proofs
set_option maxRecDepth 100000
set_option linter.unusedSimpArgs false
set_option linter.unusedVariables false
def letterP (c : Int) : Int := if 65 ≤ c ∧ c ≤ 90 then c - 64 else if 97 ≤ c ∧ c ≤ 122 then c - 96 else 0
theorem letter_ok (c : Int) (h0 : 0 ≤ c) (h1 : c ≤ 255) : Pure Tryz.prog 143 [.int .u8 c] (.int .i64 (letterP c)) := by
  intro σ
  refine a143 (by simp) ?_
  repeat' (first | (simp (disch := first | assumption | omega | (simp only [List.length_append, List.length_cons, List.length_nil]; omega)) only [go_sem, reduceCtorEq, Nat.reduceEqDiff, ↓reduceIte]) | with_reducible refine gC_d (fun h => ?_) (fun h => ?_) | with_reducible refine gC_dn (fun h => ?_) (fun h => ?_) | with_reducible refine condC_d (fun h => ?_) (fun h => ?_) | with_reducible refine condC_n (fun h => ?_) (fun h => ?_) | with_reducible refine condC_b (fun h => ?_) (fun h => ?_) | with_reducible refine boxC_by ?_ fun b hb => ?_)
  all_goals refine retC_by (Drop.refl _) (.refl _) ⟨?_, rfl⟩
  all_goals (simp only [letterP, resV_one]; congr 1; repeat' split) <;> omega
structure Ref where
  row : Int
  col : Int
  absRow : Bool
  absCol : Bool
  deriving DecidableEq, Inhabited
def refAV (r : Ref) : AV := .agg [.int .i64 r.row, .int .i64 r.col, .bool r.absRow, .bool r.absCol]
def Ref.good (r : Ref) : Bool := decide (0 ≤ r.row ∧ r.row < 3000 ∧ 0 ≤ r.col ∧ r.col < 700)
def Ref.zero : Ref := ⟨0, 0, false, false⟩
theorem good_ok (r : Ref) : Pure Tryz.prog 54 [refAV r] (.bool r.good) := by
  intro σ
  obtain ⟨row, col, ar, ac⟩ := r
  refine a54 (by simp) ?_
  repeat' (first | (simp (disch := first | assumption | omega | (simp only [List.length_append, List.length_cons, List.length_nil]; omega)) only [go_sem, Nat.reduceEqDiff, ↓reduceIte, refAV]) | with_reducible refine gC_d (fun h => ?_) (fun h => ?_) | with_reducible refine gC_dn (fun h => ?_) (fun h => ?_) | with_reducible refine condC_d (fun h => ?_) (fun h => ?_) | with_reducible refine condC_n (fun h => ?_) (fun h => ?_) | with_reducible refine condC_b (fun h => ?_) (fun h => ?_) | with_reducible refine boxC_by ?_ fun b hb => ?_)
  all_goals refine retC_by (Drop.set (by assumption)) (.refl _) ⟨?_, rfl⟩
  all_goals (simp only [Ref.good, resV_one]; congr 1; rw [Bool.eq_iff_iff]; simp; try omega)
def movedP (r : Ref) (rows cols : Int) : Ref × Bool :=
  if (r.absRow = false ∧ (rows ≤ -3000 ∨ 3000 ≤ rows)) ∨ (r.absCol = false ∧ (cols ≤ -700 ∨ 700 ≤ cols)) then (.zero, false)
  else
    let q : Ref := ⟨if r.absRow then r.row else r.row + rows, if r.absCol then r.col else r.col + cols, r.absRow, r.absCol⟩
    if q.good then (q, true) else (.zero, false)
theorem moved_ok (r : Ref) (rows cols : Int) (h1 : -4000000 ≤ r.row ∧ r.row ≤ 4000000) (h2 : -4000000 ≤ r.col ∧ r.col ≤ 4000000) :
    Pure Tryz.prog 34 [refAV r, .int .i64 rows, .int .i64 cols] (.tuple [refAV (movedP r rows cols).1, .bool (movedP r rows cols).2]) := by
  intro σ
  obtain ⟨row, col, ar, ac⟩ := r
  simp only at h1 h2
  obtain ⟨q, hq⟩ : ∃ q, movedP ⟨row, col, ar, ac⟩ rows cols = q := ⟨_, rfl⟩
  rw [hq]
  refine a34 (by simp) ?_
  simp (disch := first | assumption | omega | (simp only [List.length_append, List.length_cons, List.length_nil]; omega)) only [go_sem, refAV]
  refine boxC_by rfl fun b hb => ?_
  simp (disch := first | assumption | omega | (simp only [List.length_append, List.length_cons, List.length_nil]; omega)) only [go_sem]
  refine allocC_by fun b2 hb2 => ?_
  obtain ⟨n1, n2, hb3⟩ := set_none hb2
  cases ar <;> cases ac
  repeat' (first | (simp (disch := first | assumption | omega | (simp only [List.length_append, List.length_cons, List.length_nil]; omega)) only [go_sem, Nat.reduceEqDiff, Nat.reduceAdd, Nat.reduceLeDiff, ↓reduceIte, Int.reduceNeg, Bool.true_and]) | refine (good_ok ⟨_, _, _, _⟩).use ?_ | with_reducible refine gC_d (fun h => ?_) (fun h => ?_) | with_reducible refine gC_dn (fun h => ?_) (fun h => ?_) | with_reducible refine condC_d (fun h => ?_) (fun h => ?_) | with_reducible refine condC_n (fun h => ?_) (fun h => ?_) | with_reducible refine condC_b (fun h => ?_) (fun h => ?_) | with_reducible refine boxC_by ?_ fun b hb => ?_)
  all_goals refine retC_by ?_ (.refl _) ⟨?_, rfl⟩
  all_goals first
    | (repeat' (first | exact Drop.refl _ | with_reducible refine Drop.off ?_ (by assumption))
       done)
    | skip
  all_goals try simp only [resV_two, movedP, Ref.zero, Ref.good, Bool.false_eq_true, if_true, if_false, true_and, false_and, or_false, false_or, decide_eq_true_eq, decide_eq_false_iff_not, reduceCtorEq, Bool.not_eq_true', Bool.not_eq_false'] at *
  all_goals (repeat' (split at hq)) <;> first | (subst hq; rfl) | (exfalso; omega) | skip
end Go.A
namespace Go.A
open Go.Proofs
/-! 104: tabular/addr.Letters -/
def c104_0 : ACode := .ops [
 ⟨some 2, none, .q (.mv (.v (.str []))), []⟩]
def c104_1 : ACode := .ops [
 ⟨some 4, none, .q (.mv (.t 0)), []⟩,
 ⟨some 5, none, .q (.bin .lss (.t 4) (.v (.int .i64 0))), []⟩,
 ⟨some 6, none, .q (.mv (.t 5)), []⟩,
 ⟨some 7, some (6, false), .q (.mv (.t 0)), []⟩,
 ⟨some 8, some (6, false), .q (.bin .geq (.t 7) (.v (.int .i64 700))), []⟩,
 ⟨some 9, none, .q (.pick (.t 6) (.v (.bool true)) (.t 8)), []⟩]
def c104_2 : ACode := .ops [
 ⟨some 2, none, .q (.mv (.v (.str []))), []⟩]
def c104_3 : ACode := .seq c104_2 .ret
def c104_4 : ACode := .cond (.t 9) c104_3 .skip
def c104_5 : ACode := .seq c104_1 c104_4
def c104_6 : ACode := .ops [
 ⟨some 3, none, .q (.mv (.v (.str []))), []⟩]
def c104_7 : ACode := .ops [
 ⟨some 10, none, .q (.mv (.t 0)), []⟩,
 ⟨some 11, none, .q (.bin .add (.t 10) (.v (.int .i64 1))), []⟩,
 ⟨some 0, none, .q (.mv (.t 11)), []⟩]
def c104_8 : ACode := .ops [
 ⟨some 12, none, .q (.mv (.t 0)), []⟩,
 ⟨some 13, none, .q (.bin .gtr (.t 12) (.v (.int .i64 0))), []⟩]
def c104_9 : ACode := .cond (.t 13) .skip (.exit 0)
def c104_10 : ACode := .seq c104_8 c104_9
def c104_11 : ACode := .ops [
 ⟨some 17, none, .q (.mv (.t 0)), []⟩,
 ⟨some 18, none, .q (.bin .sub (.t 17) (.v (.int .i64 1))), []⟩,
 ⟨some 19, none, .q (.bin .rem (.t 18) (.v (.int .i64 26))), []⟩,
 ⟨some 20, none, .q (.bin .add (.v (.int .i64 65)) (.t 19)), []⟩,
 ⟨some 21, none, .q (.conv .u8 (.t 20)), []⟩,
 ⟨some 22, none, .q (.bsl 1 [(.t 21)]), []⟩,
 ⟨some 23, none, .q (.b2s (.t 22)), []⟩,
 ⟨some 24, none, .q (.mv (.t 3)), []⟩,
 ⟨some 25, none, .q (.bin .add (.t 23) (.t 24)), []⟩,
 ⟨some 3, none, .q (.mv (.t 25)), []⟩]
def c104_12 : ACode := .block 1 c104_11
def c104_13 : ACode := .ops [
 ⟨some 14, none, .q (.mv (.t 0)), []⟩,
 ⟨some 15, none, .q (.bin .sub (.t 14) (.v (.int .i64 1))), []⟩,
 ⟨some 16, none, .q (.bin .quo (.t 15) (.v (.int .i64 26))), []⟩,
 ⟨some 0, none, .q (.mv (.t 16)), []⟩]
def c104_14 : ACode := .seq c104_12 c104_13
def c104_15 : ACode := .seq c104_10 c104_14
def c104_16 : ACode := .loop c104_15
def c104_17 : ACode := .block 0 c104_16
def c104_18 : ACode := .seq c104_7 c104_17
def c104_19 : ACode := .ops [
 ⟨some 26, none, .q (.mv (.t 3)), []⟩,
 ⟨some 2, none, .q (.mv (.t 26)), []⟩]
def c104_20 : ACode := .seq c104_19 .ret
def c104_21 : ACode := .seq c104_18 c104_20
def c104_22 : ACode := .seq c104_6 c104_21
def c104_23 : ACode := .seq c104_5 c104_22
def c104_24 : ACode := .seq c104_0 c104_23
@[go_sem] theorem c104_0_wp : type_of% (wp_of c104_0.eq_1) := wp_of c104_0.eq_1
@[go_sem] theorem c104_1_wp : type_of% (wp_of c104_1.eq_1) := wp_of c104_1.eq_1
@[go_sem] theorem c104_2_wp : type_of% (wp_of c104_2.eq_1) := wp_of c104_2.eq_1
@[go_sem] theorem c104_3_wp : type_of% (wp_of c104_3.eq_1) := wp_of c104_3.eq_1
@[go_sem] theorem c104_4_wp : type_of% (wp_of c104_4.eq_1) := wp_of c104_4.eq_1
@[go_sem] theorem c104_5_wp : type_of% (wp_of c104_5.eq_1) := wp_of c104_5.eq_1
@[go_sem] theorem c104_6_wp : type_of% (wp_of c104_6.eq_1) := wp_of c104_6.eq_1
@[go_sem] theorem c104_7_wp : type_of% (wp_of c104_7.eq_1) := wp_of c104_7.eq_1
@[go_sem] theorem c104_8_wp : type_of% (wp_of c104_8.eq_1) := wp_of c104_8.eq_1
@[go_sem] theorem c104_9_wp : type_of% (wp_of c104_9.eq_1) := wp_of c104_9.eq_1
@[go_sem] theorem c104_10_wp : type_of% (wp_of c104_10.eq_1) := wp_of c104_10.eq_1
@[go_sem] theorem c104_11_wp : type_of% (wp_of c104_11.eq_1) := wp_of c104_11.eq_1
@[go_sem] theorem c104_12_wp : type_of% (wp_of c104_12.eq_1) := wp_of c104_12.eq_1
@[go_sem] theorem c104_13_wp : type_of% (wp_of c104_13.eq_1) := wp_of c104_13.eq_1
@[go_sem] theorem c104_14_wp : type_of% (wp_of c104_14.eq_1) := wp_of c104_14.eq_1
@[go_sem] theorem c104_15_wp : type_of% (wp_of c104_15.eq_1) := wp_of c104_15.eq_1
@[go_sem] theorem c104_16_wp : type_of% (wp_of c104_16.eq_1) := wp_of c104_16.eq_1
@[go_sem] theorem c104_17_wp : type_of% (wp_of c104_17.eq_1) := wp_of c104_17.eq_1
@[go_sem] theorem c104_18_wp : type_of% (wp_of c104_18.eq_1) := wp_of c104_18.eq_1
@[go_sem] theorem c104_19_wp : type_of% (wp_of c104_19.eq_1) := wp_of c104_19.eq_1
@[go_sem] theorem c104_20_wp : type_of% (wp_of c104_20.eq_1) := wp_of c104_20.eq_1
@[go_sem] theorem c104_21_wp : type_of% (wp_of c104_21.eq_1) := wp_of c104_21.eq_1
@[go_sem] theorem c104_22_wp : type_of% (wp_of c104_22.eq_1) := wp_of c104_22.eq_1
@[go_sem] theorem c104_23_wp : type_of% (wp_of c104_23.eq_1) := wp_of c104_23.eq_1
@[go_sem] theorem c104_24_wp : type_of% (wp_of c104_24.eq_1) := wp_of c104_24.eq_1
def c104 : AFn := ⟨27, [.t 2], c104_24⟩
set_option maxRecDepth 100000 in
theorem c104_ok : compF Tryz.prog Tryz.f104 = some c104 := by kernel_rfl
theorem a104 {args : List AV} {σ : ASt} {R : AV → ASt → Prop} (hl : args.length ≤ 27) (h : c104_24.wp Tryz.prog (RetQ [.t 2] R) (init args) σ) : ACalls Tryz.prog 104 args σ R := acalls_of Tryz.func104 c104_ok hl h
/-! 144: tabular/addr.Column -/
def c144_0 : ACode := .ops [
 ⟨some 2, none, .q (.mv (.v (.int .i64 0))), []⟩,
 ⟨some 3, none, .q (.mv (.v (.bool false))), []⟩]
def c144_1 : ACode := .ops [
 ⟨some 4, none, .q (.mv (.v (.int .i64 0))), []⟩]
def c144_2 : ACode := .ops [
 ⟨some 7, none, .q (.mv (.t 0)), []⟩,
 ⟨some 8, none, .e (.s2b (.t 7)), []⟩,
 ⟨some 9, none, .q (.len (.t 8)), []⟩,
 ⟨some 10, none, .q (.mv (.v (.int .i64 0))), []⟩]
def c144_3 : ACode := .ops [
 ⟨some 11, none, .q (.bin .lss (.t 10) (.t 9)), []⟩]
def c144_4 : ACode := .cond (.t 11) .skip (.exit 0)
def c144_5 : ACode := .ops [
 ⟨some 12, none, .q (.ia 1 (.t 8) (.t 10)), []⟩,
 ⟨some 13, none, .q (.ld none (.t 12)), []⟩,
 ⟨some 6, none, .q (.mv (.t 13)), []⟩]
def c144_6 : ACode := .ops [
 ⟨some 14, none, .q (.mv (.t 6)), []⟩,
 ⟨some 15, none, .e (.call 143 [(.t 14)]), []⟩,
 ⟨some 16, none, .q (.bin .eql (.t 15) (.v (.int .i64 0))), []⟩,
 ⟨some 17, none, .q (.mv (.t 16)), []⟩,
 ⟨some 18, some (17, false), .q (.mv (.t 4)), []⟩,
 ⟨some 19, some (17, false), .q (.bin .gtr (.t 18) (.v (.int .i64 700))), []⟩,
 ⟨some 20, none, .q (.pick (.t 17) (.v (.bool true)) (.t 19)), []⟩]
def c144_7 : ACode := .ops [
 ⟨some 2, none, .q (.mv (.v (.int .i64 0))), []⟩,
 ⟨some 3, none, .q (.mv (.v (.bool false))), []⟩]
def c144_8 : ACode := .seq c144_7 .ret
def c144_9 : ACode := .cond (.t 20) c144_8 .skip
def c144_10 : ACode := .seq c144_6 c144_9
def c144_11 : ACode := .ops [
 ⟨some 21, none, .q (.mv (.t 4)), []⟩,
 ⟨some 22, none, .q (.bin .mul (.v (.int .i64 26)) (.t 21)), []⟩,
 ⟨some 23, none, .q (.mv (.t 6)), []⟩,
 ⟨some 24, none, .e (.call 143 [(.t 23)]), []⟩,
 ⟨some 25, none, .q (.bin .add (.t 22) (.t 24)), []⟩,
 ⟨some 4, none, .q (.mv (.t 25)), []⟩]
def c144_12 : ACode := .seq c144_10 c144_11
def c144_13 : ACode := .seq c144_5 c144_12
def c144_14 : ACode := .block 1 c144_13
def c144_15 : ACode := .ops [
 ⟨some 26, none, .q (.bin .add (.t 10) (.v (.int .i64 1))), []⟩,
 ⟨some 10, none, .q (.mv (.t 26)), []⟩]
def c144_16 : ACode := .seq c144_14 c144_15
def c144_17 : ACode := .seq c144_4 c144_16
def c144_18 : ACode := .seq c144_3 c144_17
def c144_19 : ACode := .loop c144_18
def c144_20 : ACode := .block 0 c144_19
def c144_21 : ACode := .seq c144_2 c144_20
def c144_22 : ACode := .ops [
 ⟨some 27, none, .q (.mv (.t 4)), []⟩,
 ⟨some 28, none, .q (.bin .lss (.t 27) (.v (.int .i64 1))), []⟩,
 ⟨some 29, none, .q (.mv (.t 28)), []⟩,
 ⟨some 30, some (29, false), .q (.mv (.t 4)), []⟩,
 ⟨some 31, some (29, false), .q (.bin .gtr (.t 30) (.v (.int .i64 700))), []⟩,
 ⟨some 32, none, .q (.pick (.t 29) (.v (.bool true)) (.t 31)), []⟩]
def c144_23 : ACode := .ops [
 ⟨some 2, none, .q (.mv (.v (.int .i64 0))), []⟩,
 ⟨some 3, none, .q (.mv (.v (.bool false))), []⟩]
def c144_24 : ACode := .seq c144_23 .ret
def c144_25 : ACode := .cond (.t 32) c144_24 .skip
def c144_26 : ACode := .seq c144_22 c144_25
def c144_27 : ACode := .ops [
 ⟨some 33, none, .q (.mv (.t 4)), []⟩,
 ⟨some 34, none, .q (.bin .sub (.t 33) (.v (.int .i64 1))), []⟩,
 ⟨some 2, none, .q (.mv (.t 34)), []⟩,
 ⟨some 3, none, .q (.mv (.v (.bool true))), []⟩]
def c144_28 : ACode := .seq c144_27 .ret
def c144_29 : ACode := .seq c144_26 c144_28
def c144_30 : ACode := .seq c144_21 c144_29
def c144_31 : ACode := .seq c144_1 c144_30
def c144_32 : ACode := .seq c144_0 c144_31
@[go_sem] theorem c144_0_wp : type_of% (wp_of c144_0.eq_1) := wp_of c144_0.eq_1
@[go_sem] theorem c144_1_wp : type_of% (wp_of c144_1.eq_1) := wp_of c144_1.eq_1
@[go_sem] theorem c144_2_wp : type_of% (wp_of c144_2.eq_1) := wp_of c144_2.eq_1
@[go_sem] theorem c144_3_wp : type_of% (wp_of c144_3.eq_1) := wp_of c144_3.eq_1
@[go_sem] theorem c144_4_wp : type_of% (wp_of c144_4.eq_1) := wp_of c144_4.eq_1
@[go_sem] theorem c144_5_wp : type_of% (wp_of c144_5.eq_1) := wp_of c144_5.eq_1
@[go_sem] theorem c144_6_wp : type_of% (wp_of c144_6.eq_1) := wp_of c144_6.eq_1
@[go_sem] theorem c144_7_wp : type_of% (wp_of c144_7.eq_1) := wp_of c144_7.eq_1
@[go_sem] theorem c144_8_wp : type_of% (wp_of c144_8.eq_1) := wp_of c144_8.eq_1
@[go_sem] theorem c144_9_wp : type_of% (wp_of c144_9.eq_1) := wp_of c144_9.eq_1
@[go_sem] theorem c144_10_wp : type_of% (wp_of c144_10.eq_1) := wp_of c144_10.eq_1
@[go_sem] theorem c144_11_wp : type_of% (wp_of c144_11.eq_1) := wp_of c144_11.eq_1
@[go_sem] theorem c144_12_wp : type_of% (wp_of c144_12.eq_1) := wp_of c144_12.eq_1
@[go_sem] theorem c144_13_wp : type_of% (wp_of c144_13.eq_1) := wp_of c144_13.eq_1
@[go_sem] theorem c144_14_wp : type_of% (wp_of c144_14.eq_1) := wp_of c144_14.eq_1
@[go_sem] theorem c144_15_wp : type_of% (wp_of c144_15.eq_1) := wp_of c144_15.eq_1
@[go_sem] theorem c144_16_wp : type_of% (wp_of c144_16.eq_1) := wp_of c144_16.eq_1
@[go_sem] theorem c144_17_wp : type_of% (wp_of c144_17.eq_1) := wp_of c144_17.eq_1
@[go_sem] theorem c144_18_wp : type_of% (wp_of c144_18.eq_1) := wp_of c144_18.eq_1
@[go_sem] theorem c144_19_wp : type_of% (wp_of c144_19.eq_1) := wp_of c144_19.eq_1
@[go_sem] theorem c144_20_wp : type_of% (wp_of c144_20.eq_1) := wp_of c144_20.eq_1
@[go_sem] theorem c144_21_wp : type_of% (wp_of c144_21.eq_1) := wp_of c144_21.eq_1
@[go_sem] theorem c144_22_wp : type_of% (wp_of c144_22.eq_1) := wp_of c144_22.eq_1
@[go_sem] theorem c144_23_wp : type_of% (wp_of c144_23.eq_1) := wp_of c144_23.eq_1
@[go_sem] theorem c144_24_wp : type_of% (wp_of c144_24.eq_1) := wp_of c144_24.eq_1
@[go_sem] theorem c144_25_wp : type_of% (wp_of c144_25.eq_1) := wp_of c144_25.eq_1
@[go_sem] theorem c144_26_wp : type_of% (wp_of c144_26.eq_1) := wp_of c144_26.eq_1
@[go_sem] theorem c144_27_wp : type_of% (wp_of c144_27.eq_1) := wp_of c144_27.eq_1
@[go_sem] theorem c144_28_wp : type_of% (wp_of c144_28.eq_1) := wp_of c144_28.eq_1
@[go_sem] theorem c144_29_wp : type_of% (wp_of c144_29.eq_1) := wp_of c144_29.eq_1
@[go_sem] theorem c144_30_wp : type_of% (wp_of c144_30.eq_1) := wp_of c144_30.eq_1
@[go_sem] theorem c144_31_wp : type_of% (wp_of c144_31.eq_1) := wp_of c144_31.eq_1
@[go_sem] theorem c144_32_wp : type_of% (wp_of c144_32.eq_1) := wp_of c144_32.eq_1
def c144 : AFn := ⟨35, [.t 2, .t 3], c144_32⟩
set_option maxRecDepth 100000 in
theorem c144_ok : compF Tryz.prog Tryz.f144 = some c144 := by kernel_rfl
theorem a144 {args : List AV} {σ : ASt} {R : AV → ASt → Prop} (hl : args.length ≤ 35) (h : c144_32.wp Tryz.prog (RetQ [.t 2, .t 3] R) (init args) σ) : ACalls Tryz.prog 144 args σ R := acalls_of Tryz.func144 c144_ok hl h
end Go.A
namespace Go.A
open Go.Proofs
set_option maxRecDepth 100000
set_option linter.unusedSimpArgs false
set_option linter.unusedVariables false
def lettersF : Nat → Nat → List UInt8
  | 0, _ => []
  | k + 1, n => if n = 0 then [] else lettersF k ((n - 1) / 26) ++ [UInt8.ofNat (65 + (n - 1) % 26)]
def lettersP (col : Int) : List UInt8 := if col < 0 ∨ 700 ≤ col then [] else lettersF 4 (col + 1).toNat
theorem letters_ok (col : Int) : Pure Tryz.prog 104 [.int .i64 col] (.str (lettersP col)) := by
  intro σ
  obtain ⟨q, hq⟩ : ∃ q, lettersP col = q := ⟨_, rfl⟩
  rw [hq]
  unfold lettersP at hq
  refine a104 (by simp) ?_
  by_cases hc : col < 0 ∨ 700 ≤ col
  · rw [if_pos hc] at hq
    subst hq
    repeat' (first | (simp (disch := first | assumption | omega | (simp only [List.length_append, List.length_cons, List.length_nil]; omega)) only [go_sem, reduceCtorEq, Nat.reduceEqDiff, ↓reduceIte]) | with_reducible refine gC_d (fun h => ?_) (fun h => ?_) | with_reducible refine gC_dn (fun h => ?_) (fun h => ?_) | with_reducible refine condC_d (fun h => ?_) (fun h => ?_) | with_reducible refine condC_n (fun h => ?_) (fun h => ?_) | with_reducible refine condC_b (fun h => ?_) (fun h => ?_) | with_reducible refine boxC_by ?_ fun b hb => ?_)
    all_goals first | (exfalso; omega) | exact retC_by (Drop.refl _) (.refl _) ⟨rfl, rfl⟩
  · rw [if_neg hc] at hq
    obtain ⟨N, hN⟩ : ∃ N, (col + 1).toNat = N := ⟨_, rfl⟩
    rw [hN] at hq
    have h0 : ¬ col < 0 := by omega
    have h1 : ¬ 700 ≤ col := by omega
    have hc1 : col + 1 = (N : Int) := by omega
    simp (disch := first | assumption | omega | (simp only [List.length_append, List.length_cons, List.length_nil]; omega)) only [go_sem, reduceCtorEq, Nat.reduceEqDiff, ↓reduceIte, h0, h1, hc1]
    refine wp_loop_by (fun (i : Nat × Nat × List UInt8) a σ' => i.2.1 < 26 ^ i.1 ∧ i.1 ≤ 4 ∧ i.2.2.length + i.1 = 4 ∧ q = lettersF i.1 i.2.1 ++ i.2.2 ∧ a 0 = .int .i64 i.2.1 ∧ a 3 = .str i.2.2 ∧ σ' = σ) (fun i => i.1) (4, N, []) (Dr.now ⟨by dsimp only; omega, by simp, by simp, by simp [hq], ?_, ?_, rfl⟩) ?_
    · simp (disch := first | assumption | omega | (simp only [List.length_append, List.length_cons, List.length_nil]; omega)) only [go_sem, ↓reduceIte]
    · simp (disch := first | assumption | omega | (simp only [List.length_append, List.length_cons, List.length_nil]; omega)) only [go_sem, reduceCtorEq, Nat.reduceEqDiff, ↓reduceIte]
    rintro ⟨k, n, s⟩ a σ1 ⟨hn, hk, hs, hqe, h0, h3, rfl⟩
    dsimp only at hn hk hs hqe h0 h3
    by_cases hz : n = 0
    · subst hz
      simp (disch := first | assumption | omega | (simp only [List.length_append, List.length_cons, List.length_nil]; omega)) only [go_sem, Nat.reduceEqDiff, Int.reduceLT, ↓reduceIte, h0, h3]
      refine retC_by (Drop.refl _) (.refl _) ⟨?_, rfl⟩
      have e : lettersF k 0 = [] := by cases k <;> rfl
      rw [hqe, e]; rfl
    · obtain ⟨m, rfl⟩ : ∃ m, n = m + 1 := ⟨n - 1, by omega⟩
      have hb : (m : Int) < 456976 := by
        have := Nat.pow_le_pow_right (n := 26) (by omega) hk
        omega
      have hp : 0 < (m : Int) + 1 := by omega
      have e1 : (m : Int) + 1 - 1 = m := by omega
      have e2 : (m : Int).tmod 26 = ((m % 26 : Nat) : Int) := rfl
      have e3 : (m : Int).tdiv 26 = ((m / 26 : Nat) : Int) := rfl
      have e4 : (65 + ((m % 26 : Nat) : Int)).toNat = 65 + m % 26 := by omega
      have hk0 : k ≠ 0 := by rintro rfl; simp at hn
      obtain ⟨k, rfl⟩ : ∃ k', k = k' + 1 := ⟨k - 1, by omega⟩
      have hs1 : 1 + s.length ≤ 9223372036854775807 := by omega
      simp (disch := first | assumption | omega | (simp only [List.length_append, List.length_cons, List.length_nil]; omega)) only [go_sem, reduceCtorEq, Nat.reduceEqDiff, ↓reduceIte, Bool.true_and, h0, h3, hp, e1, e2, e3, e4]
      refine ⟨(k, m / 26, UInt8.ofNat (65 + m % 26) :: s), by dsimp only; omega, Dr.now ⟨?_, by dsimp only; omega, by simp; omega, ?_, ?_, ?_, rfl⟩⟩
      · dsimp only
        rw [Nat.pow_succ] at hn
        omega
      · dsimp only
        rw [hqe, lettersF, if_neg (by omega)]
        simp
      · simp (disch := first | assumption | omega | (simp only [List.length_append, List.length_cons, List.length_nil]; omega)) only [go_sem, ↓reduceIte]
      · simp (disch := first | assumption | omega | (simp only [List.length_append, List.length_cons, List.length_nil]; omega)) only [go_sem, reduceCtorEq, Nat.reduceEqDiff, ↓reduceIte]
def colF : Int → List UInt8 → Option Int
  | n, [] => some n
  | n, c :: cs => if letterP c.toNat = 0 ∨ 700 < n then none else colF (26 * n + letterP c.toNat) cs
def columnP (l : List UInt8) : Int × Bool :=
  match colF 0 l with
  | some n => if n < 1 ∨ 700 < n then (0, false) else (n - 1, true)
  | none => (0, false)
theorem letterP_bd (c : Int) : 0 ≤ letterP c ∧ letterP c ≤ 26 := by
  unfold letterP
  split
  · omega
  · split <;> omega
theorem column_ok (l : List UInt8) (hl : l.length ≤ 9223372036854775807) : Pure Tryz.prog 144 [.str l] (.tuple [.int .i64 (columnP l).1, .bool (columnP l).2]) := by
  intro σ
  obtain ⟨q, hq⟩ : ∃ q, columnP l = q := ⟨_, rfl⟩
  rw [hq]
  refine a144 (by simp) ?_
  simp (disch := first | assumption | omega | (simp only [List.length_append, List.length_cons, List.length_nil]; omega)) only [go_sem, reduceCtorEq, ↓reduceIte]
  refine s2b_shr ?_
  simp (disch := first | assumption | omega | (simp only [List.length_append, List.length_cons, List.length_nil]; omega)) only [go_sem, ↓reduceIte]
  refine wp_loop_by (fun (i : Nat × Int) a σ' => i.1 ≤ l.length ∧ 0 ≤ i.2 ∧ i.2 ≤ 18226 ∧ colF 0 l = colF i.2 (l.drop i.1) ∧ a 4 = .int .i64 i.2 ∧ a 8 = .sl .shr (bytesAV l) ∧ a 9 = .int .i64 l.length ∧ a 10 = .int .i64 i.1 ∧ a 2 = .int .i64 0 ∧ a 3 = .bool false ∧ σ' = σ) (fun i => l.length - i.1) (0, 0) (Dr.now ⟨by simp, by simp, by simp, rfl, ?_, ?_, ?_, ?_, ?_, ?_, rfl⟩) ?_
  · simp (disch := first | assumption | omega | (simp only [List.length_append, List.length_cons, List.length_nil]; omega)) only [go_sem, Nat.reduceEqDiff, ↓reduceIte]
  · simp (disch := first | assumption | omega | (simp only [List.length_append, List.length_cons, List.length_nil]; omega)) only [go_sem, Nat.reduceEqDiff, ↓reduceIte]
  · simp (disch := first | assumption | omega | (simp only [List.length_append, List.length_cons, List.length_nil]; omega)) only [go_sem, Nat.reduceEqDiff, ↓reduceIte]
  · simp (disch := first | assumption | omega | (simp only [List.length_append, List.length_cons, List.length_nil]; omega)) only [go_sem, ↓reduceIte]
  · simp (disch := first | assumption | omega | (simp only [List.length_append, List.length_cons, List.length_nil]; omega)) only [go_sem, Nat.reduceEqDiff, ↓reduceIte]
  · simp (disch := first | assumption | omega | (simp only [List.length_append, List.length_cons, List.length_nil]; omega)) only [go_sem, Nat.reduceEqDiff, ↓reduceIte]
  rintro ⟨i, n⟩ a σ1 ⟨hi, hn0, hn1, hcol, h4, h8, h9, h10, h2, h3, rfl⟩
  dsimp only at hi hn0 hn1 hcol h4 h10
  by_cases hlt : i < l.length
  · have hidx : l[i]? = some (l[i]'hlt) := List.getElem?_eq_getElem hlt
    obtain ⟨c, hc⟩ : ∃ c, l[i]'hlt = c := ⟨_, rfl⟩
    rw [hc] at hidx
    have hcb : (c.toNat : Int) ≤ 255 := by have := c.toNat_lt; omega
    have hbd := letterP_bd c.toNat
    rw [List.drop_eq_getElem_cons hlt, hc, colF] at hcol
    repeat' (first | (simp (disch := first | assumption | omega | (simp only [List.length_append, List.length_cons, List.length_nil]; omega)) only [go_sem, Nat.reduceEqDiff, ↓reduceIte, h4, h8, h9, h10, hidx]) | refine (letter_ok c.toNat (by omega) hcb).use ?_ | with_reducible refine gC_d (fun h => ?_) (fun h => ?_) | with_reducible refine gC_dn (fun h => ?_) (fun h => ?_) | with_reducible refine condC_d (fun h => ?_) (fun h => ?_) | with_reducible refine condC_n (fun h => ?_) (fun h => ?_) | with_reducible refine condC_b (fun h => ?_) (fun h => ?_) | with_reducible refine boxC_by ?_ fun b hb => ?_)
    · rw [if_pos (by omega)] at hcol
      unfold columnP at hq
      rw [hcol] at hq
      subst hq
      exact retC_by (Drop.refl _) (.refl _) ⟨rfl, rfl⟩
    · rename_i hz
      rw [if_neg (by omega)] at hcol
      refine ⟨(i + 1, 26 * n + letterP c.toNat), by dsimp only; omega, Dr.now ⟨by dsimp only; omega, by dsimp only; omega, by dsimp only; omega, hcol, ?_, ?_, ?_, ?_, ?_, ?_, rfl⟩⟩
      · simp (disch := first | assumption | omega | (simp only [List.length_append, List.length_cons, List.length_nil]; omega)) only [go_sem, Nat.reduceEqDiff, ↓reduceIte]
      · simp (disch := first | assumption | omega | (simp only [List.length_append, List.length_cons, List.length_nil]; omega)) only [go_sem, Nat.reduceEqDiff, ↓reduceIte, h8]
      · simp (disch := first | assumption | omega | (simp only [List.length_append, List.length_cons, List.length_nil]; omega)) only [go_sem, Nat.reduceEqDiff, ↓reduceIte, h9]
      · simp (disch := first | assumption | omega | (simp only [List.length_append, List.length_cons, List.length_nil]; omega)) only [go_sem, ↓reduceIte]
      · simp (disch := first | assumption | omega | (simp only [List.length_append, List.length_cons, List.length_nil]; omega)) only [go_sem, Nat.reduceEqDiff, ↓reduceIte, h2]
      · simp (disch := first | assumption | omega | (simp only [List.length_append, List.length_cons, List.length_nil]; omega)) only [go_sem, Nat.reduceEqDiff, ↓reduceIte, h3]
    · rw [if_pos (by omega)] at hcol
      unfold columnP at hq
      rw [hcol] at hq
      subst hq
      exact retC_by (Drop.refl _) (.refl _) ⟨rfl, rfl⟩
  · have e : l.drop i = [] := List.drop_eq_nil_of_le (by omega)
    rw [e, colF] at hcol
    unfold columnP at hq
    rw [hcol] at hq
    repeat' (first | (simp (disch := first | assumption | omega | (simp only [List.length_append, List.length_cons, List.length_nil]; omega)) only [go_sem, Nat.reduceEqDiff, ↓reduceIte, h4, h9, h10]) | with_reducible refine gC_d (fun h => ?_) (fun h => ?_) | with_reducible refine gC_dn (fun h => ?_) (fun h => ?_) | with_reducible refine condC_d (fun h => ?_) (fun h => ?_) | with_reducible refine condC_n (fun h => ?_) (fun h => ?_) | with_reducible refine condC_b (fun h => ?_) (fun h => ?_) | with_reducible refine boxC_by ?_ fun b hb => ?_)
    all_goals refine retC_by (Drop.refl _) (.refl _) ⟨?_, rfl⟩
    all_goals (simp only [resV_two] at *; split at hq) <;> first | (subst hq; rfl) | (exfalso; omega)
end Go.A
namespace Go.A
open Go.Proofs
/-! 126: tabular/addr.Read -/
def c126_0 : ACode := .ops [
 ⟨some 2, none, .e (.alloc [(.int .i64 0), (.int .i64 0), (.bool false), (.bool false)]), []⟩,
 ⟨some 3, none, .q (.mv (.v (.int .i64 0))), []⟩]
def c126_1 : ACode := .ops [
 ⟨some 4, none, .e (.alloc [(.int .i64 0), (.int .i64 0), (.bool false), (.bool false)]), []⟩]
def c126_2 : ACode := .ops [
 ⟨some 5, none, .q (.mv (.v (.int .i64 0))), []⟩]
def c126_3 : ACode := .ops [
 ⟨some 11, none, .q (.mv (.t 5)), []⟩,
 ⟨some 12, none, .q (.mv (.t 0)), []⟩,
 ⟨some 13, none, .q (.lenS (.t 12)), []⟩,
 ⟨some 14, none, .q (.bin .lss (.t 11) (.t 13)), []⟩,
 ⟨some 15, none, .q (.mv (.t 14)), []⟩,
 ⟨some 16, some (15, true), .q (.mv (.t 0)), []⟩,
 ⟨some 17, some (15, true), .q (.mv (.t 5)), []⟩,
 ⟨some 18, some (15, true), .q (.idx (.t 16) (.t 17)), []⟩,
 ⟨some 19, some (15, true), .q (.bin .eql (.t 18) (.v (.int .u8 36))), []⟩,
 ⟨some 20, none, .q (.pick (.t 15) (.t 19) (.v (.bool false))), []⟩]
def c126_4 : ACode := .ops [
 ⟨some 21, none, .q (.fa 3 (.t 4)), []⟩,
 ⟨none, none, .e (.store 1 (.t 21) (.v (.bool true))), []⟩]
def c126_5 : ACode := .ops [
 ⟨some 22, none, .q (.mv (.t 5)), []⟩,
 ⟨some 23, none, .q (.bin .add (.t 22) (.v (.int .i64 1))), []⟩,
 ⟨some 5, none, .q (.mv (.t 23)), []⟩]
def c126_6 : ACode := .seq c126_4 c126_5
def c126_7 : ACode := .cond (.t 20) c126_6 .skip
def c126_8 : ACode := .seq c126_3 c126_7
def c126_9 : ACode := .ops [
 ⟨some 24, none, .q (.mv (.t 5)), []⟩,
 ⟨some 6, none, .q (.mv (.t 24)), []⟩]
def c126_10 : ACode := .ops [
 ⟨some 25, none, .q (.mv (.t 5)), []⟩,
 ⟨some 26, none, .q (.mv (.t 0)), []⟩,
 ⟨some 27, none, .q (.lenS (.t 26)), []⟩,
 ⟨some 28, none, .q (.bin .lss (.t 25) (.t 27)), []⟩,
 ⟨some 29, none, .q (.mv (.t 28)), []⟩,
 ⟨some 30, some (29, true), .q (.mv (.t 0)), []⟩,
 ⟨some 31, some (29, true), .q (.mv (.t 5)), []⟩,
 ⟨some 32, some (29, true), .q (.idx (.t 30) (.t 31)), []⟩,
 ⟨some 33, some (29, true), .e (.call 143 [(.t 32)]), []⟩,
 ⟨some 34, some (29, true), .q (.bin .gtr (.t 33) (.v (.int .i64 0))), []⟩,
 ⟨some 35, none, .q (.pick (.t 29) (.t 34) (.v (.bool false))), []⟩]
def c126_11 : ACode := .cond (.t 35) .skip (.exit 0)
def c126_12 : ACode := .seq c126_10 c126_11
def c126_13 : ACode := .ops [
 ⟨some 36, none, .q (.mv (.t 5)), []⟩,
 ⟨some 37, none, .q (.bin .add (.t 36) (.v (.int .i64 1))), []⟩,
 ⟨some 5, none, .q (.mv (.t 37)), []⟩]
def c126_14 : ACode := .block 1 c126_13
def c126_15 : ACode := .seq c126_12 c126_14
def c126_16 : ACode := .loop c126_15
def c126_17 : ACode := .block 0 c126_16
def c126_18 : ACode := .ops [
 ⟨some 39, none, .q (.mv (.t 0)), []⟩,
 ⟨some 40, none, .q (.mv (.t 6)), []⟩,
 ⟨some 41, none, .q (.mv (.t 5)), []⟩,
 ⟨some 42, none, .q (.sls (true, 0) (.t 39) (.t 40) (.t 41)), []⟩,
 ⟨some 43, none, .e (.call 144 [(.t 42)]), []⟩,
 ⟨some 38, none, .q (.mv (.t 43)), []⟩,
 ⟨some 44, none, .q (.ext 0 (.t 38)), []⟩,
 ⟨some 45, none, .q (.ext 1 (.t 38)), []⟩,
 ⟨some 7, none, .q (.mv (.t 44)), []⟩,
 ⟨some 8, none, .q (.mv (.t 45)), []⟩]
def c126_19 : ACode := .ops [
 ⟨some 46, none, .q (.mv (.t 8)), []⟩,
 ⟨some 47, none, .q (.un .not (.t 46)), []⟩]
def c126_20 : ACode := .ops [
 ⟨some 48, none, .q (.build [(.int .i64 0), (.int .i64 0), (.bool false), (.bool false)] []), []⟩,
 ⟨none, none, .e (.store 4 (.t 2) (.t 48)), []⟩,
 ⟨some 3, none, .q (.mv (.v (.int .i64 0))), []⟩]
def c126_21 : ACode := .seq c126_20 .ret
def c126_22 : ACode := .cond (.t 47) c126_21 .skip
def c126_23 : ACode := .seq c126_19 c126_22
def c126_24 : ACode := .ops [
 ⟨some 49, none, .q (.mv (.t 5)), []⟩,
 ⟨some 50, none, .q (.mv (.t 0)), []⟩,
 ⟨some 51, none, .q (.lenS (.t 50)), []⟩,
 ⟨some 52, none, .q (.bin .lss (.t 49) (.t 51)), []⟩,
 ⟨some 53, none, .q (.mv (.t 52)), []⟩,
 ⟨some 54, some (53, true), .q (.mv (.t 0)), []⟩,
 ⟨some 55, some (53, true), .q (.mv (.t 5)), []⟩,
 ⟨some 56, some (53, true), .q (.idx (.t 54) (.t 55)), []⟩,
 ⟨some 57, some (53, true), .q (.bin .eql (.t 56) (.v (.int .u8 36))), []⟩,
 ⟨some 58, none, .q (.pick (.t 53) (.t 57) (.v (.bool false))), []⟩]
def c126_25 : ACode := .ops [
 ⟨some 59, none, .q (.fa 2 (.t 4)), []⟩,
 ⟨none, none, .e (.store 1 (.t 59) (.v (.bool true))), []⟩]
def c126_26 : ACode := .ops [
 ⟨some 60, none, .q (.mv (.t 5)), []⟩,
 ⟨some 61, none, .q (.bin .add (.t 60) (.v (.int .i64 1))), []⟩,
 ⟨some 5, none, .q (.mv (.t 61)), []⟩]
def c126_27 : ACode := .seq c126_25 c126_26
def c126_28 : ACode := .cond (.t 58) c126_27 .skip
def c126_29 : ACode := .seq c126_24 c126_28
def c126_30 : ACode := .ops [
 ⟨some 62, none, .q (.mv (.t 5)), []⟩,
 ⟨some 9, none, .q (.mv (.v (.int .i64 0))), []⟩,
 ⟨some 10, none, .q (.mv (.t 62)), []⟩]
def c126_31 : ACode := .ops [
 ⟨some 63, none, .q (.mv (.t 5)), []⟩,
 ⟨some 64, none, .q (.mv (.t 0)), []⟩,
 ⟨some 65, none, .q (.lenS (.t 64)), []⟩,
 ⟨some 66, none, .q (.bin .lss (.t 63) (.t 65)), []⟩,
 ⟨some 67, none, .q (.mv (.t 66)), []⟩,
 ⟨some 68, some (67, true), .q (.mv (.t 0)), []⟩,
 ⟨some 69, some (67, true), .q (.mv (.t 5)), []⟩,
 ⟨some 70, some (67, true), .q (.idx (.t 68) (.t 69)), []⟩,
 ⟨some 71, some (67, true), .q (.bin .geq (.t 70) (.v (.int .u8 48))), []⟩,
 ⟨some 72, none, .q (.pick (.t 67) (.t 71) (.v (.bool false))), []⟩,
 ⟨some 73, none, .q (.mv (.t 72)), []⟩,
 ⟨some 74, some (73, true), .q (.mv (.t 0)), []⟩,
 ⟨some 75, some (73, true), .q (.mv (.t 5)), []⟩,
 ⟨some 76, some (73, true), .q (.idx (.t 74) (.t 75)), []⟩,
 ⟨some 77, some (73, true), .q (.bin .leq (.t 76) (.v (.int .u8 57))), []⟩,
 ⟨some 78, none, .q (.pick (.t 73) (.t 77) (.v (.bool false))), []⟩]
def c126_32 : ACode := .cond (.t 78) .skip (.exit 2)
def c126_33 : ACode := .seq c126_31 c126_32
def c126_34 : ACode := .ops [
 ⟨some 79, none, .q (.mv (.t 9)), []⟩,
 ⟨some 80, none, .q (.bin .mul (.v (.int .i64 10)) (.t 79)), []⟩,
 ⟨some 81, none, .q (.mv (.t 0)), []⟩,
 ⟨some 82, none, .q (.mv (.t 5)), []⟩,
 ⟨some 83, none, .q (.idx (.t 81) (.t 82)), []⟩,
 ⟨some 84, none, .q (.bin .sub (.t 83) (.v (.int .u8 48))), []⟩,
 ⟨some 85, none, .q (.conv .i64 (.t 84)), []⟩,
 ⟨some 86, none, .q (.bin .add (.t 80) (.t 85)), []⟩,
 ⟨some 87, none, .q (.mnx false (.t 86) (.v (.int .i64 3001))), []⟩,
 ⟨some 9, none, .q (.mv (.t 87)), []⟩]
def c126_35 : ACode := .ops [
 ⟨some 88, none, .q (.mv (.t 5)), []⟩,
 ⟨some 89, none, .q (.bin .add (.t 88) (.v (.int .i64 1))), []⟩,
 ⟨some 5, none, .q (.mv (.t 89)), []⟩]
def c126_36 : ACode := .seq c126_34 c126_35
def c126_37 : ACode := .block 3 c126_36
def c126_38 : ACode := .seq c126_33 c126_37
def c126_39 : ACode := .loop c126_38
def c126_40 : ACode := .block 2 c126_39
def c126_41 : ACode := .ops [
 ⟨some 90, none, .q (.mv (.t 9)), []⟩,
 ⟨some 91, none, .q (.bin .lss (.t 90) (.v (.int .i64 1))), []⟩,
 ⟨some 92, none, .q (.mv (.t 91)), []⟩,
 ⟨some 93, some (92, false), .q (.mv (.t 9)), []⟩,
 ⟨some 94, some (92, false), .q (.bin .gtr (.t 93) (.v (.int .i64 3000))), []⟩,
 ⟨some 95, none, .q (.pick (.t 92) (.v (.bool true)) (.t 94)), []⟩,
 ⟨some 96, none, .q (.mv (.t 95)), []⟩,
 ⟨some 97, some (96, false), .q (.mv (.t 0)), []⟩,
 ⟨some 98, some (96, false), .q (.mv (.t 10)), []⟩,
 ⟨some 99, some (96, false), .q (.idx (.t 97) (.t 98)), []⟩,
 ⟨some 100, some (96, false), .q (.bin .eql (.t 99) (.v (.int .u8 48))), []⟩,
 ⟨some 101, none, .q (.pick (.t 96) (.v (.bool true)) (.t 100)), []⟩,
 ⟨some 102, none, .q (.mv (.t 101)), []⟩,
 ⟨some 103, some (102, false), .q (.mv (.t 0)), []⟩,
 ⟨some 104, some (102, false), .q (.mv (.t 5)), []⟩,
 ⟨some 105, some (102, false), .e (.call 145 [(.t 103), (.t 104)]), []⟩,
 ⟨some 106, some (102, false), .e (.call 143 [(.t 105)]), []⟩,
 ⟨some 107, some (102, false), .q (.bin .gtr (.t 106) (.v (.int .i64 0))), []⟩,
 ⟨some 108, none, .q (.pick (.t 102) (.v (.bool true)) (.t 107)), []⟩,
 ⟨some 109, none, .q (.mv (.t 108)), []⟩,
 ⟨some 110, some (109, false), .q (.mv (.t 0)), []⟩,
 ⟨some 111, some (109, false), .q (.mv (.t 5)), []⟩,
 ⟨some 112, some (109, false), .e (.call 145 [(.t 110), (.t 111)]), []⟩,
 ⟨some 113, some (109, false), .q (.bin .eql (.t 112) (.v (.int .u8 95))), []⟩,
 ⟨some 114, none, .q (.pick (.t 109) (.v (.bool true)) (.t 113)), []⟩]
def c126_42 : ACode := .ops [
 ⟨some 115, none, .q (.build [(.int .i64 0), (.int .i64 0), (.bool false), (.bool false)] []), []⟩,
 ⟨none, none, .e (.store 4 (.t 2) (.t 115)), []⟩,
 ⟨some 3, none, .q (.mv (.v (.int .i64 0))), []⟩]
def c126_43 : ACode := .seq c126_42 .ret
def c126_44 : ACode := .cond (.t 114) c126_43 .skip
def c126_45 : ACode := .seq c126_41 c126_44
def c126_46 : ACode := .ops [
 ⟨some 116, none, .q (.mv (.t 9)), []⟩,
 ⟨some 117, none, .q (.bin .sub (.t 116) (.v (.int .i64 1))), []⟩,
 ⟨some 118, none, .q (.mv (.t 7)), []⟩,
 ⟨some 119, none, .q (.fa 0 (.t 4)), []⟩,
 ⟨none, none, .e (.store 1 (.t 119) (.t 117)), []⟩,
 ⟨some 120, none, .q (.fa 1 (.t 4)), []⟩,
 ⟨none, none, .e (.store 1 (.t 120) (.t 118)), []⟩]
def c126_47 : ACode := .ops [
 ⟨some 121, none, .q (.ld (some 4) (.t 4)), []⟩,
 ⟨some 122, none, .q (.mv (.t 5)), []⟩,
 ⟨none, none, .e (.store 4 (.t 2) (.t 121)), []⟩,
 ⟨some 3, none, .q (.mv (.t 122)), []⟩]
def c126_48 : ACode := .seq c126_47 .ret
def c126_49 : ACode := .seq c126_46 c126_48
def c126_50 : ACode := .seq c126_45 c126_49
def c126_51 : ACode := .seq c126_40 c126_50
def c126_52 : ACode := .seq c126_30 c126_51
def c126_53 : ACode := .seq c126_29 c126_52
def c126_54 : ACode := .seq c126_23 c126_53
def c126_55 : ACode := .seq c126_18 c126_54
def c126_56 : ACode := .seq c126_17 c126_55
def c126_57 : ACode := .seq c126_9 c126_56
def c126_58 : ACode := .seq c126_8 c126_57
def c126_59 : ACode := .seq c126_2 c126_58
def c126_60 : ACode := .seq c126_1 c126_59
def c126_61 : ACode := .seq c126_0 c126_60
@[go_sem] theorem c126_0_wp : type_of% (wp_of c126_0.eq_1) := wp_of c126_0.eq_1
@[go_sem] theorem c126_1_wp : type_of% (wp_of c126_1.eq_1) := wp_of c126_1.eq_1
@[go_sem] theorem c126_2_wp : type_of% (wp_of c126_2.eq_1) := wp_of c126_2.eq_1
@[go_sem] theorem c126_3_wp : type_of% (wp_of c126_3.eq_1) := wp_of c126_3.eq_1
@[go_sem] theorem c126_4_wp : type_of% (wp_of c126_4.eq_1) := wp_of c126_4.eq_1
@[go_sem] theorem c126_5_wp : type_of% (wp_of c126_5.eq_1) := wp_of c126_5.eq_1
@[go_sem] theorem c126_6_wp : type_of% (wp_of c126_6.eq_1) := wp_of c126_6.eq_1
@[go_sem] theorem c126_7_wp : type_of% (wp_of c126_7.eq_1) := wp_of c126_7.eq_1
@[go_sem] theorem c126_8_wp : type_of% (wp_of c126_8.eq_1) := wp_of c126_8.eq_1
@[go_sem] theorem c126_9_wp : type_of% (wp_of c126_9.eq_1) := wp_of c126_9.eq_1
@[go_sem] theorem c126_10_wp : type_of% (wp_of c126_10.eq_1) := wp_of c126_10.eq_1
@[go_sem] theorem c126_11_wp : type_of% (wp_of c126_11.eq_1) := wp_of c126_11.eq_1
@[go_sem] theorem c126_12_wp : type_of% (wp_of c126_12.eq_1) := wp_of c126_12.eq_1
@[go_sem] theorem c126_13_wp : type_of% (wp_of c126_13.eq_1) := wp_of c126_13.eq_1
@[go_sem] theorem c126_14_wp : type_of% (wp_of c126_14.eq_1) := wp_of c126_14.eq_1
@[go_sem] theorem c126_15_wp : type_of% (wp_of c126_15.eq_1) := wp_of c126_15.eq_1
@[go_sem] theorem c126_16_wp : type_of% (wp_of c126_16.eq_1) := wp_of c126_16.eq_1
@[go_sem] theorem c126_17_wp : type_of% (wp_of c126_17.eq_1) := wp_of c126_17.eq_1
@[go_sem] theorem c126_18_wp : type_of% (wp_of c126_18.eq_1) := wp_of c126_18.eq_1
@[go_sem] theorem c126_19_wp : type_of% (wp_of c126_19.eq_1) := wp_of c126_19.eq_1
@[go_sem] theorem c126_20_wp : type_of% (wp_of c126_20.eq_1) := wp_of c126_20.eq_1
@[go_sem] theorem c126_21_wp : type_of% (wp_of c126_21.eq_1) := wp_of c126_21.eq_1
@[go_sem] theorem c126_22_wp : type_of% (wp_of c126_22.eq_1) := wp_of c126_22.eq_1
@[go_sem] theorem c126_23_wp : type_of% (wp_of c126_23.eq_1) := wp_of c126_23.eq_1
@[go_sem] theorem c126_24_wp : type_of% (wp_of c126_24.eq_1) := wp_of c126_24.eq_1
@[go_sem] theorem c126_25_wp : type_of% (wp_of c126_25.eq_1) := wp_of c126_25.eq_1
@[go_sem] theorem c126_26_wp : type_of% (wp_of c126_26.eq_1) := wp_of c126_26.eq_1
@[go_sem] theorem c126_27_wp : type_of% (wp_of c126_27.eq_1) := wp_of c126_27.eq_1
@[go_sem] theorem c126_28_wp : type_of% (wp_of c126_28.eq_1) := wp_of c126_28.eq_1
@[go_sem] theorem c126_29_wp : type_of% (wp_of c126_29.eq_1) := wp_of c126_29.eq_1
@[go_sem] theorem c126_30_wp : type_of% (wp_of c126_30.eq_1) := wp_of c126_30.eq_1
@[go_sem] theorem c126_31_wp : type_of% (wp_of c126_31.eq_1) := wp_of c126_31.eq_1
@[go_sem] theorem c126_32_wp : type_of% (wp_of c126_32.eq_1) := wp_of c126_32.eq_1
@[go_sem] theorem c126_33_wp : type_of% (wp_of c126_33.eq_1) := wp_of c126_33.eq_1
@[go_sem] theorem c126_34_wp : type_of% (wp_of c126_34.eq_1) := wp_of c126_34.eq_1
@[go_sem] theorem c126_35_wp : type_of% (wp_of c126_35.eq_1) := wp_of c126_35.eq_1
@[go_sem] theorem c126_36_wp : type_of% (wp_of c126_36.eq_1) := wp_of c126_36.eq_1
@[go_sem] theorem c126_37_wp : type_of% (wp_of c126_37.eq_1) := wp_of c126_37.eq_1
@[go_sem] theorem c126_38_wp : type_of% (wp_of c126_38.eq_1) := wp_of c126_38.eq_1
@[go_sem] theorem c126_39_wp : type_of% (wp_of c126_39.eq_1) := wp_of c126_39.eq_1
@[go_sem] theorem c126_40_wp : type_of% (wp_of c126_40.eq_1) := wp_of c126_40.eq_1
@[go_sem] theorem c126_41_wp : type_of% (wp_of c126_41.eq_1) := wp_of c126_41.eq_1
@[go_sem] theorem c126_42_wp : type_of% (wp_of c126_42.eq_1) := wp_of c126_42.eq_1
@[go_sem] theorem c126_43_wp : type_of% (wp_of c126_43.eq_1) := wp_of c126_43.eq_1
@[go_sem] theorem c126_44_wp : type_of% (wp_of c126_44.eq_1) := wp_of c126_44.eq_1
@[go_sem] theorem c126_45_wp : type_of% (wp_of c126_45.eq_1) := wp_of c126_45.eq_1
@[go_sem] theorem c126_46_wp : type_of% (wp_of c126_46.eq_1) := wp_of c126_46.eq_1
@[go_sem] theorem c126_47_wp : type_of% (wp_of c126_47.eq_1) := wp_of c126_47.eq_1
@[go_sem] theorem c126_48_wp : type_of% (wp_of c126_48.eq_1) := wp_of c126_48.eq_1
@[go_sem] theorem c126_49_wp : type_of% (wp_of c126_49.eq_1) := wp_of c126_49.eq_1
@[go_sem] theorem c126_50_wp : type_of% (wp_of c126_50.eq_1) := wp_of c126_50.eq_1
@[go_sem] theorem c126_51_wp : type_of% (wp_of c126_51.eq_1) := wp_of c126_51.eq_1
@[go_sem] theorem c126_52_wp : type_of% (wp_of c126_52.eq_1) := wp_of c126_52.eq_1
@[go_sem] theorem c126_53_wp : type_of% (wp_of c126_53.eq_1) := wp_of c126_53.eq_1
@[go_sem] theorem c126_54_wp : type_of% (wp_of c126_54.eq_1) := wp_of c126_54.eq_1
@[go_sem] theorem c126_55_wp : type_of% (wp_of c126_55.eq_1) := wp_of c126_55.eq_1
@[go_sem] theorem c126_56_wp : type_of% (wp_of c126_56.eq_1) := wp_of c126_56.eq_1
@[go_sem] theorem c126_57_wp : type_of% (wp_of c126_57.eq_1) := wp_of c126_57.eq_1
@[go_sem] theorem c126_58_wp : type_of% (wp_of c126_58.eq_1) := wp_of c126_58.eq_1
@[go_sem] theorem c126_59_wp : type_of% (wp_of c126_59.eq_1) := wp_of c126_59.eq_1
@[go_sem] theorem c126_60_wp : type_of% (wp_of c126_60.eq_1) := wp_of c126_60.eq_1
@[go_sem] theorem c126_61_wp : type_of% (wp_of c126_61.eq_1) := wp_of c126_61.eq_1
def c126 : AFn := ⟨123, [.c 2 (some 4), .t 3], c126_61⟩
set_option maxRecDepth 100000 in
theorem c126_ok : compF Tryz.prog Tryz.f126 = some c126 := by kernel_rfl
theorem a126 {args : List AV} {σ : ASt} {R : AV → ASt → Prop} (hl : args.length ≤ 123) (h : c126_61.wp Tryz.prog (RetQ [.c 2 (some 4), .t 3] R) (init args) σ) : ACalls Tryz.prog 126 args σ R := acalls_of Tryz.func126 c126_ok hl h
/-! 145: tabular/addr.at -/
def c145_0 : ACode := .ops [
 ⟨some 4, none, .q (.mv (.v (.int .u8 0))), []⟩]
def c145_1 : ACode := .ops [
 ⟨some 5, none, .q (.mv (.t 1)), []⟩,
 ⟨some 6, none, .q (.mv (.t 0)), []⟩,
 ⟨some 7, none, .q (.lenS (.t 6)), []⟩,
 ⟨some 8, none, .q (.bin .lss (.t 5) (.t 7)), []⟩]
def c145_2 : ACode := .ops [
 ⟨some 9, none, .q (.mv (.t 0)), []⟩,
 ⟨some 10, none, .q (.mv (.t 1)), []⟩,
 ⟨some 11, none, .q (.idx (.t 9) (.t 10)), []⟩,
 ⟨some 4, none, .q (.mv (.t 11)), []⟩]
def c145_3 : ACode := .seq c145_2 .ret
def c145_4 : ACode := .cond (.t 8) c145_3 .skip
def c145_5 : ACode := .seq c145_1 c145_4
def c145_6 : ACode := .ops [
 ⟨some 4, none, .q (.mv (.v (.int .u8 0))), []⟩]
def c145_7 : ACode := .seq c145_6 .ret
def c145_8 : ACode := .seq c145_5 c145_7
def c145_9 : ACode := .seq c145_0 c145_8
@[go_sem] theorem c145_0_wp : type_of% (wp_of c145_0.eq_1) := wp_of c145_0.eq_1
@[go_sem] theorem c145_1_wp : type_of% (wp_of c145_1.eq_1) := wp_of c145_1.eq_1
@[go_sem] theorem c145_2_wp : type_of% (wp_of c145_2.eq_1) := wp_of c145_2.eq_1
@[go_sem] theorem c145_3_wp : type_of% (wp_of c145_3.eq_1) := wp_of c145_3.eq_1
@[go_sem] theorem c145_4_wp : type_of% (wp_of c145_4.eq_1) := wp_of c145_4.eq_1
@[go_sem] theorem c145_5_wp : type_of% (wp_of c145_5.eq_1) := wp_of c145_5.eq_1
@[go_sem] theorem c145_6_wp : type_of% (wp_of c145_6.eq_1) := wp_of c145_6.eq_1
@[go_sem] theorem c145_7_wp : type_of% (wp_of c145_7.eq_1) := wp_of c145_7.eq_1
@[go_sem] theorem c145_8_wp : type_of% (wp_of c145_8.eq_1) := wp_of c145_8.eq_1
@[go_sem] theorem c145_9_wp : type_of% (wp_of c145_9.eq_1) := wp_of c145_9.eq_1
def c145 : AFn := ⟨12, [.t 4], c145_9⟩
set_option maxRecDepth 100000 in
theorem c145_ok : compF Tryz.prog Tryz.f145 = some c145 := by kernel_rfl
theorem a145 {args : List AV} {σ : ASt} {R : AV → ASt → Prop} (hl : args.length ≤ 12) (h : c145_9.wp Tryz.prog (RetQ [.t 4] R) (init args) σ) : ACalls Tryz.prog 145 args σ R := acalls_of Tryz.func145 c145_ok hl h
end Go.A
namespace Go.A
open Go.Proofs
set_option maxRecDepth 100000
set_option linter.unusedSimpArgs false
set_option linter.unusedVariables false
def atP (l : List UInt8) (i : Nat) : Int := match l[i]? with
  | some c => c.toNat
  | none => 0
theorem atP_bd (l : List UInt8) (i : Nat) : 0 ≤ atP l i ∧ atP l i ≤ 255 := by
  unfold atP
  split
  · rename_i c _; have := c.toNat_lt; omega
  · omega
theorem at_ok (l : List UInt8) (i : Nat) (hl : l.length ≤ 9223372036854775807) (hi : i ≤ l.length) : Pure Tryz.prog 145 [.str l, .int .i64 i] (.int .u8 (atP l i)) := by
  intro σ
  refine a145 (by simp) ?_
  unfold atP
  by_cases hlt : i < l.length
  · have hidx : l[i]? = some (l[i]'hlt) := List.getElem?_eq_getElem hlt
    rw [hidx]
    simp (disch := first | assumption | omega | (simp only [List.length_append, List.length_cons, List.length_nil]; omega)) only [go_sem, reduceCtorEq, Nat.reduceEqDiff, ↓reduceIte, hidx]
    exact retC_by (Drop.refl _) (.refl _) ⟨rfl, rfl⟩
  · rw [List.getElem?_eq_none (by omega)]
    simp (disch := first | assumption | omega | (simp only [List.length_append, List.length_cons, List.length_nil]; omega)) only [go_sem, reduceCtorEq, Nat.reduceEqDiff, ↓reduceIte]
    exact retC_by (Drop.refl _) (.refl _) ⟨rfl, rfl⟩
def runL (p : UInt8 → Bool) : List UInt8 → Nat
  | [] => 0
  | c :: cs => if p c then runL p cs + 1 else 0
theorem runL_le (p : UInt8 → Bool) : ∀ l, runL p l ≤ l.length
  | [] => Nat.le_refl _
  | c :: cs => by
    have := runL_le p cs
    unfold runL
    split <;> simp <;> omega
def isL (c : UInt8) : Bool := decide (0 < letterP c.toNat)
def isD (c : UInt8) : Bool := decide (48 ≤ c.toNat ∧ c.toNat ≤ 57)
def numF : Int → List UInt8 → Int
  | n, [] => n
  | n, c :: cs => if isD c then numF (min (10 * n + (c.toNat - 48)) 3001) cs else n
def readQ (l : List UInt8) (i : Nat) (col : Int) (ar ac : Bool) : Ref × Int :=
  if numF 0 (l.drop i) < 1 ∨ 3000 < numF 0 (l.drop i) ∨ atP l i = 48 ∨ 0 < letterP (atP l (i + runL isD (l.drop i))) ∨ atP l (i + runL isD (l.drop i)) = 95 then (.zero, 0)
  else (⟨numF 0 (l.drop i) - 1, col, ar, ac⟩, (i + runL isD (l.drop i) : Nat))
set_option maxHeartbeats 1000000 in
theorem read2 (l : List UInt8) (hl : l.length ≤ 9223372036854775000) (σ : ASt) (b0 b1 : Nat) (hb0 : σ b0 = none) (hb1 : σ b1 = none) (n1 : b0 ≠ b1) (i2 : Nat) (hi2 : i2 ≤ l.length) (col : Int) (ar ac : Bool) (q : Ref × Int) (hq : readQ l i2 col ar ac = q)
    (a : AFr) (h0 : a 0 = .str l) (h2 : a 2 = .ptr b0 0) (h4 : a 4 = .ptr b1 0) (h5 : a 5 = .int .i64 i2) (h7 : a 7 = .int .i64 col) :
    ACode.wp Tryz.prog c126_52 (RetQ [.c 2 (some 4), .t 3] fun v σ' => v = .tuple [refAV q.1, .int .i64 q.2] ∧ σ' = σ) a
      ((σ.set b0 (some (.obj [.int .i64 0, .int .i64 0, .bool false, .bool false]))).set b1 (some (.obj [.int .i64 0, .int .i64 0, .bool ar, .bool ac]))) := by
  have n2 : b1 ≠ b0 := Ne.symm n1
  obtain ⟨F, hF⟩ : ∃ F, F = ACode.wp Tryz.prog c126_50 := ⟨_, rfl⟩
  have fin : ∀ (i : Nat) (n : Int) (a : AFr), i2 ≤ i → i ≤ l.length → 0 ≤ n → n ≤ 3001 → (n = 0 ∨ i2 < i) → i2 + runL isD (l.drop i2) = i → numF 0 (l.drop i2) = n →
      a 0 = .str l → a 2 = .ptr b0 0 → a 4 = .ptr b1 0 → a 5 = .int .i64 i → a 7 = .int .i64 col → a 9 = .int .i64 n → a 10 = .int .i64 i2 →
      F (RetQ [.c 2 (some 4), .t 3] fun v σ' => v = .tuple [refAV q.1, .int .i64 q.2] ∧ σ' = σ) a
        ((σ.set b0 (some (.obj [.int .i64 0, .int .i64 0, .bool false, .bool false]))).set b1 (some (.obj [.int .i64 0, .int .i64 0, .bool ar, .bool ac]))) := by
    rw [hF]
    intro i n a hi hil hn0 hn1 hni hrun hnum h0 h2 h4 h5 h7 h9 h10
    unfold readQ at hq
    rw [hrun, hnum] at hq
    by_cases hn : n < 1
    · rw [if_pos (.inl hn)] at hq
      subst hq
      repeat' (first | (simp (disch := first | assumption | omega | (simp only [List.length_append, List.length_cons, List.length_nil]; omega)) only [go_sem, Nat.reduceEqDiff, Nat.reduceAdd, Nat.reduceLeDiff, ↓reduceIte, Bool.true_and, h2, h9, hn, refAV]) | with_reducible refine gC_d (fun h => ?_) (fun h => ?_) | with_reducible refine gC_dn (fun h => ?_) (fun h => ?_) | with_reducible refine condC_d (fun h => ?_) (fun h => ?_) | with_reducible refine condC_n (fun h => ?_) (fun h => ?_) | with_reducible refine condC_b (fun h => ?_) (fun h => ?_) | with_reducible refine boxC_by ?_ fun b hb => ?_)
      all_goals exact retC_by (by repeat' (first | exact Drop.refl _ | with_reducible refine Drop.off ?_ (by assumption))) (.refl _) ⟨rfl, rfl⟩
    · have hidx : l[i2]? = some (l[i2]'(by omega)) := List.getElem?_eq_getElem (by omega)
      obtain ⟨c, hc⟩ : ∃ c, l[i2]'(by omega) = c := ⟨_, rfl⟩
      rw [hc] at hidx
      have hat : atP l i2 = c.toNat := by unfold atP; rw [hidx]
      rw [hat] at hq
      have hb := atP_bd l i
      repeat' (first | (simp (disch := first | assumption | omega | (simp only [List.length_append, List.length_cons, List.length_nil]; omega)) only [go_sem, reduceCtorEq, Nat.reduceEqDiff, Nat.reduceAdd, Nat.reduceLeDiff, ↓reduceIte, Bool.true_and, h0, h2, h4, h5, h7, h9, h10, hn, hidx, refAV]) | refine (at_ok l i (by omega) hil).use ?_ | refine (letter_ok _ hb.1 hb.2).use ?_ | with_reducible refine gC_d (fun h => ?_) (fun h => ?_) | with_reducible refine gC_dn (fun h => ?_) (fun h => ?_) | with_reducible refine condC_d (fun h => ?_) (fun h => ?_) | with_reducible refine condC_n (fun h => ?_) (fun h => ?_) | with_reducible refine condC_b (fun h => ?_) (fun h => ?_) | with_reducible refine boxC_by ?_ fun b hb => ?_)
      all_goals first
        | (rw [if_pos (by omega)] at hq
           subst hq
           exact retC_by (by repeat' (first | exact Drop.refl _ | with_reducible refine Drop.off ?_ (by assumption))) (.refl _) ⟨rfl, rfl⟩)
        | (rw [if_neg (by omega)] at hq
           subst hq
           exact retC_by (by repeat' (first | exact Drop.refl _ | with_reducible refine Drop.off ?_ (by assumption))) (.refl _) ⟨rfl, rfl⟩)
  simp (disch := first | assumption | omega | (simp only [List.length_append, List.length_cons, List.length_nil]; omega)) only [go_sem, Nat.reduceEqDiff, ↓reduceIte, h5]
  rw [← hF]
  refine wp_loop_by (fun (i : Nat × Int) a σ' => i2 ≤ i.1 ∧ i.1 ≤ l.length ∧ 0 ≤ i.2 ∧ i.2 ≤ 3001 ∧ (i.2 = 0 ∨ i2 < i.1) ∧ i2 + runL isD (l.drop i2) = i.1 + runL isD (l.drop i.1) ∧ numF 0 (l.drop i2) = numF i.2 (l.drop i.1) ∧
    a 0 = .str l ∧ a 2 = .ptr b0 0 ∧ a 4 = .ptr b1 0 ∧ a 5 = .int .i64 i.1 ∧ a 7 = .int .i64 col ∧ a 9 = .int .i64 i.2 ∧ a 10 = .int .i64 i2 ∧
    σ' = (σ.set b0 (some (.obj [.int .i64 0, .int .i64 0, .bool false, .bool false]))).set b1 (some (.obj [.int .i64 0, .int .i64 0, .bool ar, .bool ac]))) (fun i => l.length - i.1) (i2, 0)
    (Dr.now ⟨Nat.le_refl _, hi2, by simp, by simp, .inl rfl, rfl, rfl, ?_, ?_, ?_, ?_, ?_, ?_, ?_, rfl⟩) ?_
  · simp (disch := first | assumption | omega | (simp only [List.length_append, List.length_cons, List.length_nil]; omega)) only [go_sem, reduceCtorEq, ↓reduceIte, h0]
  · simp (disch := first | assumption | omega | (simp only [List.length_append, List.length_cons, List.length_nil]; omega)) only [go_sem, Nat.reduceEqDiff, ↓reduceIte, h2]
  · simp (disch := first | assumption | omega | (simp only [List.length_append, List.length_cons, List.length_nil]; omega)) only [go_sem, Nat.reduceEqDiff, ↓reduceIte, h4]
  · simp (disch := first | assumption | omega | (simp only [List.length_append, List.length_cons, List.length_nil]; omega)) only [go_sem, Nat.reduceEqDiff, ↓reduceIte, h5]
  · simp (disch := first | assumption | omega | (simp only [List.length_append, List.length_cons, List.length_nil]; omega)) only [go_sem, Nat.reduceEqDiff, ↓reduceIte, h7]
  · simp (disch := first | assumption | omega | (simp only [List.length_append, List.length_cons, List.length_nil]; omega)) only [go_sem, Nat.reduceEqDiff, ↓reduceIte]
  · simp (disch := first | assumption | omega | (simp only [List.length_append, List.length_cons, List.length_nil]; omega)) only [go_sem, ↓reduceIte]
  clear h0 h2 h4 h5 h7
  rintro ⟨i, n⟩ a σ1 ⟨hi, hil, hn0, hn1, hni, hrun, hnum, h0, h2, h4, h5, h7, h9, h10, rfl⟩
  dsimp only at hi hil hn0 hn1 hni hrun hnum h5 h9
  by_cases hlt : i < l.length
  · have hidx : l[i]? = some (l[i]'hlt) := List.getElem?_eq_getElem hlt
    obtain ⟨c, hc⟩ : ∃ c, l[i]'hlt = c := ⟨_, rfl⟩
    rw [hc] at hidx
    have hcb : (c.toNat : Int) ≤ 255 := by have := c.toNat_lt; omega
    rw [List.drop_eq_getElem_cons hlt, hc, runL] at hrun
    rw [List.drop_eq_getElem_cons hlt, hc, numF] at hnum
    have hat : atP l i = c.toNat := by unfold atP; rw [hidx]
    by_cases hd : 48 ≤ (c.toNat : Int) ∧ (c.toNat : Int) ≤ 57
    · have hD : isD c = true := by unfold isD; simp; omega
      rw [if_pos hD] at hrun hnum
      have hd1 := hd.1
      have hd2 := hd.2
      simp (disch := first | assumption | omega | (simp only [List.length_append, List.length_cons, List.length_nil]; omega)) only [go_sem, reduceCtorEq, Nat.reduceEqDiff, ↓reduceIte, h0, h5, h9, hidx, hd1, hd2]
      refine ⟨(i + 1, min (10 * n + (c.toNat - 48)) 3001), by dsimp only; omega, Dr.now ⟨by dsimp only; omega, by dsimp only; omega, by dsimp only; omega, by dsimp only; omega, by dsimp only; omega, by dsimp only; omega, hnum, ?_, ?_, ?_, ?_, ?_, ?_, ?_, rfl⟩⟩
      · simp (disch := first | assumption | omega | (simp only [List.length_append, List.length_cons, List.length_nil]; omega)) only [go_sem, reduceCtorEq, ↓reduceIte, h0]
      · simp (disch := first | assumption | omega | (simp only [List.length_append, List.length_cons, List.length_nil]; omega)) only [go_sem, Nat.reduceEqDiff, ↓reduceIte, h2]
      · simp (disch := first | assumption | omega | (simp only [List.length_append, List.length_cons, List.length_nil]; omega)) only [go_sem, Nat.reduceEqDiff, ↓reduceIte, h4]
      · simp (disch := first | assumption | omega | (simp only [List.length_append, List.length_cons, List.length_nil]; omega)) only [go_sem, ↓reduceIte]
      · simp (disch := first | assumption | omega | (simp only [List.length_append, List.length_cons, List.length_nil]; omega)) only [go_sem, Nat.reduceEqDiff, ↓reduceIte, h7]
      · simp (disch := first | assumption | omega | (simp only [List.length_append, List.length_cons, List.length_nil]; omega)) only [go_sem, Nat.reduceEqDiff, ↓reduceIte]
      · simp (disch := first | assumption | omega | (simp only [List.length_append, List.length_cons, List.length_nil]; omega)) only [go_sem, Nat.reduceEqDiff, ↓reduceIte, h10]
    · have hD : ¬ isD c = true := by unfold isD; simp; omega
      rw [if_neg hD] at hrun hnum
      repeat' (first | (simp (disch := first | assumption | omega | (simp only [List.length_append, List.length_cons, List.length_nil]; omega)) only [go_sem, reduceCtorEq, Nat.reduceEqDiff, ↓reduceIte, h0, h5, hidx]) | with_reducible refine gC_d (fun h => ?_) (fun h => ?_) | with_reducible refine gC_dn (fun h => ?_) (fun h => ?_) | with_reducible refine condC_d (fun h => ?_) (fun h => ?_) | with_reducible refine condC_n (fun h => ?_) (fun h => ?_) | with_reducible refine condC_b (fun h => ?_) (fun h => ?_) | with_reducible refine boxC_by ?_ fun b hb => ?_)
      all_goals first | (exfalso; omega) | skip
      all_goals refine fin i n _ hi hil hn0 hn1 hni (by omega) hnum ?_ ?_ ?_ ?_ ?_ ?_ ?_ <;> simp (disch := first | assumption | omega | (simp only [List.length_append, List.length_cons, List.length_nil]; omega)) only [go_sem, reduceCtorEq, Nat.reduceEqDiff, ↓reduceIte, h0, h2, h4, h5, h7, h9, h10]
  · have e : l.drop i = [] := List.drop_eq_nil_of_le (by omega)
    rw [e, runL] at hrun
    rw [e, numF] at hnum
    simp (disch := first | assumption | omega | (simp only [List.length_append, List.length_cons, List.length_nil]; omega)) only [go_sem, reduceCtorEq, Nat.reduceEqDiff, ↓reduceIte, h0, h5]
    refine fin i n _ hi hil hn0 hn1 hni (by omega) hnum ?_ ?_ ?_ ?_ ?_ ?_ ?_ <;> simp (disch := first | assumption | omega | (simp only [List.length_append, List.length_cons, List.length_nil]; omega)) only [go_sem, reduceCtorEq, Nat.reduceEqDiff, ↓reduceIte, h0, h2, h4, h5, h7, h9, h10]
def readR (l : List UInt8) (i : Nat) (ac : Bool) : Ref × Int :=
  if (columnP ((l.take (i + runL isL (l.drop i))).drop i)).2 = false then (.zero, 0)
  else if atP l (i + runL isL (l.drop i)) = 36 then readQ l (i + runL isL (l.drop i) + 1) (columnP ((l.take (i + runL isL (l.drop i))).drop i)).1 true ac
  else readQ l (i + runL isL (l.drop i)) (columnP ((l.take (i + runL isL (l.drop i))).drop i)).1 false ac
set_option maxHeartbeats 1000000 in
theorem read1 (l : List UInt8) (hl : l.length ≤ 9223372036854775000) (σ : ASt) (b0 b1 : Nat) (hb0 : σ b0 = none) (hb1 : σ b1 = none) (n1 : b0 ≠ b1) (i0 : Nat) (hi0 : i0 ≤ l.length) (ac : Bool) (q : Ref × Int) (hq : readR l i0 ac = q)
    (a : AFr) (h0 : a 0 = .str l) (h2 : a 2 = .ptr b0 0) (h4 : a 4 = .ptr b1 0) (h5 : a 5 = .int .i64 i0) :
    ACode.wp Tryz.prog c126_57 (RetQ [.c 2 (some 4), .t 3] fun v σ' => v = .tuple [refAV q.1, .int .i64 q.2] ∧ σ' = σ) a
      ((σ.set b0 (some (.obj [.int .i64 0, .int .i64 0, .bool false, .bool false]))).set b1 (some (.obj [.int .i64 0, .int .i64 0, .bool false, .bool ac]))) := by
  have n2 : b1 ≠ b0 := Ne.symm n1
  obtain ⟨F2, hF2⟩ : ∃ F, F = ACode.wp Tryz.prog c126_52 := ⟨_, rfl⟩
  obtain ⟨F3, hF3⟩ : ∃ F, F = ACode.wp Tryz.prog c126_53 := ⟨_, rfl⟩
  obtain ⟨F4, hF4⟩ : ∃ F, F = ACode.wp Tryz.prog c126_54 := ⟨_, rfl⟩
  obtain ⟨F5, hF5⟩ : ∃ F, F = ACode.wp Tryz.prog c126_55 := ⟨_, rfl⟩
  have fin : ∀ (i : Nat) (a : AFr), i0 ≤ i → i ≤ l.length → i0 + runL isL (l.drop i0) = i → a 0 = .str l → a 2 = .ptr b0 0 → a 4 = .ptr b1 0 → a 5 = .int .i64 i → a 6 = .int .i64 i0 →
      F5 (RetQ [.c 2 (some 4), .t 3] fun v σ' => v = .tuple [refAV q.1, .int .i64 q.2] ∧ σ' = σ) a
        ((σ.set b0 (some (.obj [.int .i64 0, .int .i64 0, .bool false, .bool false]))).set b1 (some (.obj [.int .i64 0, .int .i64 0, .bool false, .bool ac]))) := by
    intro i a hi hil hrun h0 h2 h4 h5 h6
    unfold readR at hq
    rw [hrun] at hq
    obtain ⟨C, hC⟩ : ∃ C, columnP ((l.take i).drop i0) = C := ⟨_, rfl⟩
    rw [hC] at hq
    obtain ⟨col, ok⟩ := C
    rw [hF5, c126_55_wp, wp_seq', ← hF4]
    simp (disch := first | assumption | omega | (simp only [List.length_append, List.length_cons, List.length_nil]; omega)) only [go_sem, Nat.reduceEqDiff, ↓reduceIte, h0, h5, h6]
    refine (column_ok ((l.take i).drop i0) (by simp; omega)).use ?_
    rw [hC]
    simp (disch := first | assumption | omega | (simp only [List.length_append, List.length_cons, List.length_nil]; omega)) only [go_sem, Nat.reduceEqDiff, ↓reduceIte]
    rw [hF4, c126_54_wp, wp_seq', ← hF3]
    cases ok
    · rw [if_pos rfl] at hq
      subst hq
      simp (disch := first | assumption | omega | (simp only [List.length_append, List.length_cons, List.length_nil]; omega)) only [go_sem, Nat.reduceEqDiff, Nat.reduceAdd, Nat.reduceLeDiff, ↓reduceIte, Bool.true_and, h2, refAV]
      exact retC_by (by repeat' (first | exact Drop.refl _ | with_reducible refine Drop.off ?_ (by assumption))) (.refl _) ⟨rfl, rfl⟩
    · rw [if_neg (by simp)] at hq
      simp (disch := first | assumption | omega | (simp only [List.length_append, List.length_cons, List.length_nil]; omega)) only [go_sem, ↓reduceIte]
      rw [hF3, c126_53_wp, wp_seq', ← hF2]
      by_cases hlt : i < l.length
      · have hidx : l[i]? = some (l[i]'hlt) := List.getElem?_eq_getElem hlt
        obtain ⟨c, hc⟩ : ∃ c, l[i]'hlt = c := ⟨_, rfl⟩
        rw [hc] at hidx
        have hat : atP l i = c.toNat := by unfold atP; rw [hidx]
        rw [hat] at hq
        by_cases h36 : (c.toNat : Int) = 36
        · rw [if_pos h36] at hq
          simp (disch := first | assumption | omega | (simp only [List.length_append, List.length_cons, List.length_nil]; omega)) only [go_sem, reduceCtorEq, Nat.reduceEqDiff, Nat.reduceAdd, Nat.reduceLeDiff, ↓reduceIte, Bool.true_and, h0, h4, h5, hidx, h36, ASt.set_set]
          rw [hF2]
          refine read2 l hl σ b0 b1 hb0 hb1 n1 (i + 1) (by omega) col true ac q hq _ ?_ ?_ ?_ ?_ ?_ <;> simp (disch := first | assumption | omega | (simp only [List.length_append, List.length_cons, List.length_nil]; omega)) only [go_sem, reduceCtorEq, Nat.reduceEqDiff, ↓reduceIte, h0, h2, h4]
        · rw [if_neg h36] at hq
          simp (disch := first | assumption | omega | (simp only [List.length_append, List.length_cons, List.length_nil]; omega)) only [go_sem, reduceCtorEq, Nat.reduceEqDiff, ↓reduceIte, h0, h5, hidx, h36]
          rw [hF2]
          refine read2 l hl σ b0 b1 hb0 hb1 n1 i (by omega) col false ac q hq _ ?_ ?_ ?_ ?_ ?_ <;> simp (disch := first | assumption | omega | (simp only [List.length_append, List.length_cons, List.length_nil]; omega)) only [go_sem, reduceCtorEq, Nat.reduceEqDiff, ↓reduceIte, h0, h2, h4, h5]
      · have hat : atP l i = 0 := by unfold atP; rw [List.getElem?_eq_none (by omega)]
        rw [hat, if_neg (by omega)] at hq
        simp (disch := first | assumption | omega | (simp only [List.length_append, List.length_cons, List.length_nil]; omega)) only [go_sem, reduceCtorEq, Nat.reduceEqDiff, ↓reduceIte, h0, h5]
        rw [hF2]
        refine read2 l hl σ b0 b1 hb0 hb1 n1 i (by omega) col false ac q hq _ ?_ ?_ ?_ ?_ ?_ <;> simp (disch := first | assumption | omega | (simp only [List.length_append, List.length_cons, List.length_nil]; omega)) only [go_sem, reduceCtorEq, Nat.reduceEqDiff, ↓reduceIte, h0, h2, h4, h5]
  rw [c126_57_wp, wp_seq']
  simp (disch := first | assumption | omega | (simp only [List.length_append, List.length_cons, List.length_nil]; omega)) only [go_sem, ↓reduceIte, h5]
  rw [← hF5]
  refine wp_loop_by (fun (i : Nat) a σ' => i0 ≤ i ∧ i ≤ l.length ∧ i0 + runL isL (l.drop i0) = i + runL isL (l.drop i) ∧ a 0 = .str l ∧ a 2 = .ptr b0 0 ∧ a 4 = .ptr b1 0 ∧ a 5 = .int .i64 i ∧ a 6 = .int .i64 i0 ∧
    σ' = (σ.set b0 (some (.obj [.int .i64 0, .int .i64 0, .bool false, .bool false]))).set b1 (some (.obj [.int .i64 0, .int .i64 0, .bool false, .bool ac]))) (fun i => l.length - i) i0
    (Dr.now ⟨Nat.le_refl _, hi0, rfl, ?_, ?_, ?_, ?_, ?_, rfl⟩) ?_
  · simp (disch := first | assumption | omega | (simp only [List.length_append, List.length_cons, List.length_nil]; omega)) only [go_sem, reduceCtorEq, ↓reduceIte, h0]
  · simp (disch := first | assumption | omega | (simp only [List.length_append, List.length_cons, List.length_nil]; omega)) only [go_sem, Nat.reduceEqDiff, ↓reduceIte, h2]
  · simp (disch := first | assumption | omega | (simp only [List.length_append, List.length_cons, List.length_nil]; omega)) only [go_sem, Nat.reduceEqDiff, ↓reduceIte, h4]
  · simp (disch := first | assumption | omega | (simp only [List.length_append, List.length_cons, List.length_nil]; omega)) only [go_sem, Nat.reduceEqDiff, ↓reduceIte, h5]
  · simp (disch := first | assumption | omega | (simp only [List.length_append, List.length_cons, List.length_nil]; omega)) only [go_sem, ↓reduceIte]
  clear h0 h2 h4 h5
  rintro i a σ1 ⟨hi, hil, hrun, h0, h2, h4, h5, h6, rfl⟩
  by_cases hlt : i < l.length
  · have hidx : l[i]? = some (l[i]'hlt) := List.getElem?_eq_getElem hlt
    obtain ⟨c, hc⟩ : ∃ c, l[i]'hlt = c := ⟨_, rfl⟩
    rw [hc] at hidx
    have hcb : (c.toNat : Int) ≤ 255 := by have := c.toNat_lt; omega
    rw [List.drop_eq_getElem_cons hlt, hc, runL] at hrun
    simp (disch := first | assumption | omega | (simp only [List.length_append, List.length_cons, List.length_nil]; omega)) only [go_sem, reduceCtorEq, Nat.reduceEqDiff, ↓reduceIte, h0, h5, hidx]
    refine (letter_ok c.toNat (by omega) hcb).use ?_
    by_cases hL : 0 < letterP c.toNat
    · rw [if_pos (by unfold isL; simpa using hL)] at hrun
      simp (disch := first | assumption | omega | (simp only [List.length_append, List.length_cons, List.length_nil]; omega)) only [go_sem, Nat.reduceEqDiff, ↓reduceIte, h5, hL]
      refine ⟨i + 1, by dsimp only; omega, Dr.now ⟨by omega, by omega, by omega, ?_, ?_, ?_, ?_, ?_, rfl⟩⟩
      · simp (disch := first | assumption | omega | (simp only [List.length_append, List.length_cons, List.length_nil]; omega)) only [go_sem, reduceCtorEq, ↓reduceIte, h0]
      · simp (disch := first | assumption | omega | (simp only [List.length_append, List.length_cons, List.length_nil]; omega)) only [go_sem, Nat.reduceEqDiff, ↓reduceIte, h2]
      · simp (disch := first | assumption | omega | (simp only [List.length_append, List.length_cons, List.length_nil]; omega)) only [go_sem, Nat.reduceEqDiff, ↓reduceIte, h4]
      · simp (disch := first | assumption | omega | (simp only [List.length_append, List.length_cons, List.length_nil]; omega)) only [go_sem, ↓reduceIte]
      · simp (disch := first | assumption | omega | (simp only [List.length_append, List.length_cons, List.length_nil]; omega)) only [go_sem, Nat.reduceEqDiff, ↓reduceIte, h6]
    · rw [if_neg (by unfold isL; simpa using hL)] at hrun
      simp (disch := first | assumption | omega | (simp only [List.length_append, List.length_cons, List.length_nil]; omega)) only [go_sem, Nat.reduceEqDiff, ↓reduceIte, hL]
      refine fin i _ hi hil (by omega) ?_ ?_ ?_ ?_ ?_ <;> simp (disch := first | assumption | omega | (simp only [List.length_append, List.length_cons, List.length_nil]; omega)) only [go_sem, reduceCtorEq, Nat.reduceEqDiff, ↓reduceIte, h0, h2, h4, h5, h6]
  · have e : l.drop i = [] := List.drop_eq_nil_of_le (by omega)
    rw [e, runL] at hrun
    simp (disch := first | assumption | omega | (simp only [List.length_append, List.length_cons, List.length_nil]; omega)) only [go_sem, reduceCtorEq, Nat.reduceEqDiff, ↓reduceIte, h0, h5]
    refine fin i _ hi hil (by omega) ?_ ?_ ?_ ?_ ?_ <;> simp (disch := first | assumption | omega | (simp only [List.length_append, List.length_cons, List.length_nil]; omega)) only [go_sem, reduceCtorEq, Nat.reduceEqDiff, ↓reduceIte, h0, h2, h4, h5, h6]
def readP (l : List UInt8) : Ref × Int := if atP l 0 = 36 then readR l 1 true else readR l 0 false
theorem read_ok (l : List UInt8) (hl : l.length ≤ 9223372036854775000) : Pure Tryz.prog 126 [.str l] (.tuple [refAV (readP l).1, .int .i64 (readP l).2]) := by
  intro σ
  obtain ⟨q, hq⟩ : ∃ q, readP l = q := ⟨_, rfl⟩
  rw [hq]
  unfold readP at hq
  refine a126 (by simp) ?_
  obtain ⟨F, hF⟩ : ∃ F, F = ACode.wp Tryz.prog c126_57 := ⟨_, rfl⟩
  obtain ⟨F8, hF8⟩ : ∃ F, F = ACode.wp Tryz.prog c126_58 := ⟨_, rfl⟩
  obtain ⟨F9, hF9⟩ : ∃ F, F = ACode.wp Tryz.prog c126_59 := ⟨_, rfl⟩
  obtain ⟨F0, hF0⟩ : ∃ F, F = ACode.wp Tryz.prog c126_60 := ⟨_, rfl⟩
  rw [c126_61_wp, wp_seq', ← hF0]
  simp (disch := first | assumption | omega | (simp only [List.length_append, List.length_cons, List.length_nil]; omega)) only [go_sem]
  refine allocC_by fun b0 hb0 => ?_
  simp (disch := first | assumption | omega | (simp only [List.length_append, List.length_cons, List.length_nil]; omega)) only [go_sem]
  rw [hF0, c126_60_wp, wp_seq', ← hF9]
  simp (disch := first | assumption | omega | (simp only [List.length_append, List.length_cons, List.length_nil]; omega)) only [go_sem]
  refine allocC_by fun b1 hb1 => ?_
  obtain ⟨n1, n2, hb3⟩ := set_none hb1
  simp (disch := first | assumption | omega | (simp only [List.length_append, List.length_cons, List.length_nil]; omega)) only [go_sem]
  rw [hF9, c126_59_wp, wp_seq', ← hF8]
  simp (disch := first | assumption | omega | (simp only [List.length_append, List.length_cons, List.length_nil]; omega)) only [go_sem]
  rw [hF8, c126_58_wp, wp_seq', ← hF]
  by_cases hlt : 0 < l.length
  · have hidx : l[0]? = some (l[0]'hlt) := List.getElem?_eq_getElem hlt
    obtain ⟨c, hc⟩ : ∃ c, l[0]'hlt = c := ⟨_, rfl⟩
    rw [hc] at hidx
    have hat : atP l 0 = c.toNat := by unfold atP; rw [hidx]
    have hlt' : (0 : Int) < l.length := by omega
    rw [hat] at hq
    by_cases h36 : (c.toNat : Int) = 36
    · rw [if_pos h36] at hq
      simp (disch := first | assumption | omega | (simp only [List.length_append, List.length_cons, List.length_nil]; omega)) only [go_sem, reduceCtorEq, Nat.reduceEqDiff, Nat.reduceAdd, Nat.reduceLeDiff, ↓reduceIte, Int.reduceAdd, Bool.true_and, hlt', hidx, h36, ASt.set_set]
      rw [hF]
      refine read1 l hl σ b0 b1 hb0 hb3 n2 1 (by omega) true q hq _ ?_ ?_ ?_ ?_ <;> simp (disch := first | assumption | omega | (simp only [List.length_append, List.length_cons, List.length_nil]; omega)) only [go_sem, reduceCtorEq, Nat.reduceEqDiff, ↓reduceIte]
    · rw [if_neg h36] at hq
      simp (disch := first | assumption | omega | (simp only [List.length_append, List.length_cons, List.length_nil]; omega)) only [go_sem, reduceCtorEq, Nat.reduceEqDiff, ↓reduceIte, hlt', hidx, h36]
      rw [hF]
      refine read1 l hl σ b0 b1 hb0 hb3 n2 0 (by omega) false q hq _ ?_ ?_ ?_ ?_ <;> simp (disch := first | assumption | omega | (simp only [List.length_append, List.length_cons, List.length_nil]; omega)) only [go_sem, reduceCtorEq, Nat.reduceEqDiff, ↓reduceIte]
  · have hat : atP l 0 = 0 := by unfold atP; rw [List.getElem?_eq_none (by omega)]
    have hlt' : ¬ (0 : Int) < l.length := by omega
    rw [hat, if_neg (by omega)] at hq
    simp (disch := first | assumption | omega | (simp only [List.length_append, List.length_cons, List.length_nil]; omega)) only [go_sem, reduceCtorEq, Nat.reduceEqDiff, ↓reduceIte, hlt']
    rw [hF]
    refine read1 l hl σ b0 b1 hb0 hb3 n2 0 (by omega) false q hq _ ?_ ?_ ?_ ?_ <;> simp (disch := first | assumption | omega | (simp only [List.length_append, List.length_cons, List.length_nil]; omega)) only [go_sem, reduceCtorEq, Nat.reduceEqDiff, ↓reduceIte]
end Go.A
namespace Go.A
open Go.Proofs
/-! 58: (tabular/addr.Area).Rect -/
/-! 82: (tabular/addr.Area).Norm -/
/-! 109: tabular/addr.Parse -/
def c109_0 : ACode := .ops [
 ⟨some 2, none, .e (.alloc [(.int .i64 0), (.int .i64 0), (.bool false), (.bool false)]), []⟩,
 ⟨some 3, none, .q (.mv (.v (.bool false))), []⟩]
def c109_1 : ACode := .ops [
 ⟨some 7, none, .q (.mv (.t 0)), []⟩,
 ⟨some 8, none, .e (.call 126 [(.t 7)]), []⟩,
 ⟨some 6, none, .q (.mv (.t 8)), []⟩,
 ⟨some 9, none, .q (.ext 0 (.t 6)), []⟩,
 ⟨some 10, none, .q (.ext 1 (.t 6)), []⟩,
 ⟨some 4, none, .e (.alloc [(.int .i64 0), (.int .i64 0), (.bool false), (.bool false)]), []⟩,
 ⟨none, none, .e (.store 4 (.t 4) (.t 9)), []⟩,
 ⟨some 5, none, .q (.mv (.t 10)), []⟩]
def c109_2 : ACode := .ops [
 ⟨some 11, none, .q (.mv (.t 5)), []⟩,
 ⟨some 12, none, .q (.bin .eql (.t 11) (.v (.int .i64 0))), []⟩,
 ⟨some 13, none, .q (.mv (.t 12)), []⟩,
 ⟨some 14, some (13, false), .q (.mv (.t 5)), []⟩,
 ⟨some 15, some (13, false), .q (.mv (.t 0)), []⟩,
 ⟨some 16, some (13, false), .q (.lenS (.t 15)), []⟩,
 ⟨some 17, some (13, false), .q (.bin .lss (.t 14) (.t 16)), []⟩,
 ⟨some 18, none, .q (.pick (.t 13) (.v (.bool true)) (.t 17)), []⟩]
def c109_3 : ACode := .ops [
 ⟨some 19, none, .q (.build [(.int .i64 0), (.int .i64 0), (.bool false), (.bool false)] []), []⟩,
 ⟨none, none, .e (.store 4 (.t 2) (.t 19)), []⟩,
 ⟨some 3, none, .q (.mv (.v (.bool false))), []⟩]
def c109_4 : ACode := .seq c109_3 .ret
def c109_5 : ACode := .cond (.t 18) c109_4 .skip
def c109_6 : ACode := .seq c109_2 c109_5
def c109_7 : ACode := .ops [
 ⟨some 20, none, .q (.ld (some 4) (.t 4)), []⟩,
 ⟨none, none, .e (.store 4 (.t 2) (.t 20)), []⟩,
 ⟨some 3, none, .q (.mv (.v (.bool true))), []⟩]
def c109_8 : ACode := .seq c109_7 .ret
def c109_9 : ACode := .seq c109_6 c109_8
def c109_10 : ACode := .seq c109_1 c109_9
def c109_11 : ACode := .seq c109_0 c109_10
@[go_sem] theorem c109_0_wp : type_of% (wp_of c109_0.eq_1) := wp_of c109_0.eq_1
@[go_sem] theorem c109_1_wp : type_of% (wp_of c109_1.eq_1) := wp_of c109_1.eq_1
@[go_sem] theorem c109_2_wp : type_of% (wp_of c109_2.eq_1) := wp_of c109_2.eq_1
@[go_sem] theorem c109_3_wp : type_of% (wp_of c109_3.eq_1) := wp_of c109_3.eq_1
@[go_sem] theorem c109_4_wp : type_of% (wp_of c109_4.eq_1) := wp_of c109_4.eq_1
@[go_sem] theorem c109_5_wp : type_of% (wp_of c109_5.eq_1) := wp_of c109_5.eq_1
@[go_sem] theorem c109_6_wp : type_of% (wp_of c109_6.eq_1) := wp_of c109_6.eq_1
@[go_sem] theorem c109_7_wp : type_of% (wp_of c109_7.eq_1) := wp_of c109_7.eq_1
@[go_sem] theorem c109_8_wp : type_of% (wp_of c109_8.eq_1) := wp_of c109_8.eq_1
@[go_sem] theorem c109_9_wp : type_of% (wp_of c109_9.eq_1) := wp_of c109_9.eq_1
@[go_sem] theorem c109_10_wp : type_of% (wp_of c109_10.eq_1) := wp_of c109_10.eq_1
@[go_sem] theorem c109_11_wp : type_of% (wp_of c109_11.eq_1) := wp_of c109_11.eq_1
def c109 : AFn := ⟨21, [.c 2 (some 4), .t 3], c109_11⟩
set_option maxRecDepth 100000 in
theorem c109_ok : compF Tryz.prog Tryz.f109 = some c109 := by kernel_rfl
theorem a109 {args : List AV} {σ : ASt} {R : AV → ASt → Prop} (hl : args.length ≤ 21) (h : c109_11.wp Tryz.prog (RetQ [.c 2 (some 4), .t 3] R) (init args) σ) : ACalls Tryz.prog 109 args σ R := acalls_of Tryz.func109 c109_ok hl h
end Go.A
namespace Go.A
open Go.Proofs
set_option maxRecDepth 100000
set_option linter.unusedSimpArgs false
set_option linter.unusedVariables false
def parseP (l : List UInt8) : Ref × Bool := if (readP l).2 = 0 ∨ (readP l).2 < l.length then (.zero, false) else ((readP l).1, true)
theorem parse_ok (l : List UInt8) (hl : l.length ≤ 9223372036854775000) : Pure Tryz.prog 109 [.str l] (.tuple [refAV (parseP l).1, .bool (parseP l).2]) := by
  intro σ
  obtain ⟨q, hq⟩ : ∃ q, parseP l = q := ⟨_, rfl⟩
  rw [hq]
  unfold parseP at hq
  obtain ⟨R, hR⟩ : ∃ R, readP l = R := ⟨_, rfl⟩
  rw [hR] at hq
  obtain ⟨⟨row, col, ar, ac⟩, n⟩ := R
  dsimp only at hq
  refine a109 (by simp) ?_
  simp (disch := first | assumption | omega | (simp only [List.length_append, List.length_cons, List.length_nil]; omega)) only [go_sem]
  refine allocC_by fun b0 hb0 => ?_
  simp (disch := first | assumption | omega | (simp only [List.length_append, List.length_cons, List.length_nil]; omega)) only [go_sem, reduceCtorEq, ↓reduceIte]
  refine (read_ok l hl).use ?_
  rw [hR]
  simp (disch := first | assumption | omega | (simp only [List.length_append, List.length_cons, List.length_nil]; omega)) only [go_sem, Nat.reduceEqDiff, ↓reduceIte, refAV]
  refine allocC_by fun b1 hb1 => ?_
  obtain ⟨n1, n2, hb3⟩ := set_none hb1
  repeat' (first | (simp (disch := first | assumption | omega | (simp only [List.length_append, List.length_cons, List.length_nil]; omega)) only [go_sem, reduceCtorEq, Nat.reduceEqDiff, Nat.reduceAdd, Nat.reduceLeDiff, ↓reduceIte, Bool.true_and]) | with_reducible refine gC_d (fun h => ?_) (fun h => ?_) | with_reducible refine gC_dn (fun h => ?_) (fun h => ?_) | with_reducible refine condC_d (fun h => ?_) (fun h => ?_) | with_reducible refine condC_n (fun h => ?_) (fun h => ?_) | with_reducible refine condC_b (fun h => ?_) (fun h => ?_) | with_reducible refine boxC_by ?_ fun b hb => ?_)
  all_goals first
    | (rw [if_pos (by omega)] at hq
       subst hq
       exact retC_by (by repeat' (first | exact Drop.refl _ | with_reducible refine Drop.off ?_ (by assumption))) (.refl _) ⟨rfl, rfl⟩)
    | (rw [if_neg (by omega)] at hq
       subst hq
       exact retC_by (by repeat' (first | exact Drop.refl _ | with_reducible refine Drop.off ?_ (by assumption))) (.refl _) ⟨rfl, rfl⟩)
def areaAV (a b : Ref) : AV := .agg [.int .i64 a.row, .int .i64 a.col, .bool a.absRow, .bool a.absCol, .int .i64 b.row, .int .i64 b.col, .bool b.absRow, .bool b.absCol]
def Ref.near (r : Ref) : Prop := -4000000 ≤ r.row ∧ r.row ≤ 4000000 ∧ -4000000 ≤ r.col ∧ r.col ≤ 4000000
end Go.A
namespace Go.A
open Go.Proofs
set_option maxRecDepth 100000
set_option linter.unusedSimpArgs false
set_option linter.unusedVariables false
theorem lettersF_len : ∀ k n, (lettersF k n).length ≤ k
  | 0, n => Nat.le_refl _
  | k + 1, n => by
    unfold lettersF
    split
    · exact Nat.zero_le _
    · have := lettersF_len k ((n - 1) / 26)
      simp; omega
theorem letters_len (c : Int) : (lettersP c).length ≤ 4 := by
  unfold lettersP
  split
  · exact Nat.zero_le _
  · exact lettersF_len _ _
end Go.A
namespace Go.A
open Go.Proofs
set_option maxRecDepth 100000
set_option linter.unusedSimpArgs false
set_option linter.unusedVariables false
def digF : Nat → Nat → List UInt8
  | 0, _ => []
  | k + 1, n => if n < 10 then [UInt8.ofNat (48 + n)] else digF k (n / 10) ++ [UInt8.ofNat (48 + n % 10)]
theorem digF_eq : ∀ (k n : Nat), n < 10 ^ (k + 1) → Lib.decDigits n = digF (k + 1) n
  | 0, n, h => by
    rw [Lib.decDigits, dif_pos (by omega)]
    unfold digF
    rw [if_pos (by omega)]
  | k + 1, n, h => by
    rw [Lib.decDigits]
    unfold digF
    by_cases h1 : n < 10
    · rw [dif_pos h1, if_pos h1]
    · rw [dif_neg h1, if_neg h1, digF_eq k (n / 10) (by rw [Nat.pow_succ] at h; omega)]
def numT (row : Int) : List UInt8 := digF 4 (row + 1).toNat
theorem itoa_num {row : Int} (h0 : 0 ≤ row) (h1 : row < 3000) : Lib.itoa (row + 1) = numT row := by
  unfold Lib.itoa numT
  rw [if_neg (by omega), digF_eq 3 _ (by omega)]
theorem num_all : (List.range 3000).all (fun i => decide (numF 0 (numT i) = (i : Int) + 1) && (numT i).all isD && decide (1 ≤ (numT i).length) && decide ((numT i).length ≤ 4) && decide (atP (numT i) 0 ≠ 48)) = true := by decide +kernel
theorem num_facts {row : Int} (h0 : 0 ≤ row) (h1 : row < 3000) : numF 0 (numT row) = row + 1 ∧ (∀ c ∈ numT row, isD c = true) ∧ 1 ≤ (numT row).length ∧ (numT row).length ≤ 4 ∧ atP (numT row) 0 ≠ 48 := by
  obtain ⟨i, rfl⟩ : ∃ i : Nat, row = i := ⟨row.toNat, by omega⟩
  have := List.all_eq_true.1 num_all i (List.mem_range.2 (by omega))
  simpa [and_assoc] using this
theorem let_all : (List.range 700).all (fun i => (lettersP i).all isL && decide (1 ≤ (lettersP i).length)) = true := by decide +kernel
theorem let_facts {col : Int} (h0 : 0 ≤ col) (h1 : col < 700) : (∀ c ∈ lettersP col, isL c = true) ∧ 1 ≤ (lettersP col).length := by
  obtain ⟨i, rfl⟩ : ∃ i : Nat, col = i := ⟨col.toNat, by omega⟩
  have := List.all_eq_true.1 let_all i (List.mem_range.2 (by omega))
  simpa using this
def dolP (b : Bool) : List UInt8 := if b then [36] else []
def textP (r : Ref) : List UInt8 := dolP r.absCol ++ lettersP r.col ++ dolP r.absRow ++ numT r.row
def Behind (x : List UInt8) : Prop := x = [] ∨ ∃ y, x = 58 :: y
theorem text_len {r : Ref} (hg : r.good = true) : 2 ≤ (textP r).length ∧ (textP r).length ≤ 10 := by
  simp only [Ref.good, decide_eq_true_eq] at hg
  obtain ⟨g1, g2, g3, g4⟩ := hg
  obtain ⟨l1, l2⟩ := let_facts g3 g4
  obtain ⟨n1, n2, n3, n4, n5⟩ := num_facts g1 g2
  have := letters_len r.col
  unfold textP dolP
  simp only [List.length_append]
  constructor
  · omega
  · split <;> split <;> simp <;> omega
end Go.A
namespace Go.A
open Go.Proofs
/-! 9: tabular/tabularlaw01.Cut -/
def c9_0 : ACode := .ops [
 ⟨some 4, none, .q (.mv (.v (.str []))), []⟩]
def c9_1 : ACode := .ops [
 ⟨some 5, none, .q (.mv (.t 0)), []⟩,
 ⟨some 6, none, .q (.lenS (.t 5)), []⟩,
 ⟨some 7, none, .q (.mv (.t 1)), []⟩,
 ⟨some 8, none, .q (.bin .gtr (.t 6) (.t 7)), []⟩]
def c9_2 : ACode := .ops [
 ⟨some 9, none, .q (.mv (.t 0)), []⟩,
 ⟨some 10, none, .q (.mv (.t 1)), []⟩,
 ⟨some 11, none, .q (.slto (true, 0) (.t 9) (.t 10)), []⟩,
 ⟨some 4, none, .q (.mv (.t 11)), []⟩]
def c9_3 : ACode := .seq c9_2 .ret
def c9_4 : ACode := .cond (.t 8) c9_3 .skip
def c9_5 : ACode := .seq c9_1 c9_4
def c9_6 : ACode := .ops [
 ⟨some 12, none, .q (.mv (.t 0)), []⟩,
 ⟨some 4, none, .q (.mv (.t 12)), []⟩]
def c9_7 : ACode := .seq c9_6 .ret
def c9_8 : ACode := .seq c9_5 c9_7
def c9_9 : ACode := .seq c9_0 c9_8
def c9 : AFn := ⟨13, [.t 4], c9_9⟩
set_option maxRecDepth 100000 in
theorem c9_ok : compF Tryz.prog Tryz.f9 = some c9 := by kernel_rfl
theorem a9 {args : List AV} {σ : ASt} {R : AV → ASt → Prop} (hl : args.length ≤ 13) (h : c9_9.wp Tryz.prog (RetQ [.t 4] R) (init args) σ) : ACalls Tryz.prog 9 args σ R := acalls_of Tryz.func9 c9_ok hl h
/-! 73: (tabular/deci.Dec).Text -/
def c73_0 : ACode := .ops [
 ⟨some 2, none, .q (.mv (.v (.str []))), []⟩]
def c73_1 : ACode := .ops [
 ⟨some 6, none, .q (.mv (.t 0)), []⟩,
 ⟨some 7, none, .e (.call 98 [(.t 6)]), []⟩,
 ⟨some 3, none, .q (.mv (.t 7)), []⟩]
def c73_2 : ACode := .ops [
 ⟨some 8, none, .q (.mv (.t 3)), []⟩,
 ⟨some 9, none, .q (.bin .quo (.t 8) (.v (.int .u64 10000))), []⟩,
 ⟨some 10, none, .e (.call 99 [(.t 9), (.v (.int .i64 10))]), []⟩,
 ⟨some 4, none, .q (.mv (.t 10)), []⟩]
def c73_3 : ACode := .ops [
 ⟨some 11, none, .q (.mv (.t 3)), []⟩,
 ⟨some 12, none, .q (.bin .rem (.t 11) (.v (.int .u64 10000))), []⟩,
 ⟨some 5, none, .q (.mv (.t 12)), []⟩]
def c73_4 : ACode := .ops [
 ⟨some 13, none, .q (.mv (.t 5)), []⟩,
 ⟨some 14, none, .q (.bin .gtr (.t 13) (.v (.int .u64 0))), []⟩]
def c73_5 : ACode := .ops [
 ⟨some 15, none, .q (.mv (.t 4)), []⟩,
 ⟨some 16, none, .q (.mv (.t 5)), []⟩,
 ⟨some 17, none, .q (.bin .add (.v (.int .u64 10000)) (.t 16)), []⟩,
 ⟨some 18, none, .e (.call 99 [(.t 17), (.v (.int .i64 10))]), []⟩,
 ⟨some 19, none, .q (.slfrom (true, 0) (.t 18) (.v (.int .i64 1))), []⟩,
 ⟨some 20, none, .e (.call 100 [(.t 19), (.v (.str [48]))]), []⟩,
 ⟨some 21, none, .q (.bin .add (.v (.str [46])) (.t 20)), []⟩,
 ⟨some 22, none, .q (.bin .add (.t 15) (.t 21)), []⟩,
 ⟨some 4, none, .q (.mv (.t 22)), []⟩]
def c73_6 : ACode := .cond (.t 14) c73_5 .skip
def c73_7 : ACode := .seq c73_4 c73_6
def c73_8 : ACode := .seq c73_3 c73_7
def c73_9 : ACode := .ops [
 ⟨some 23, none, .q (.mv (.t 0)), []⟩,
 ⟨some 24, none, .q (.bin .lss (.t 23) (.v (.int .i64 0))), []⟩]
def c73_10 : ACode := .ops [
 ⟨some 25, none, .q (.mv (.t 4)), []⟩,
 ⟨some 26, none, .q (.bin .add (.v (.str [45])) (.t 25)), []⟩,
 ⟨some 2, none, .q (.mv (.t 26)), []⟩]
def c73_11 : ACode := .seq c73_10 .ret
def c73_12 : ACode := .cond (.t 24) c73_11 .skip
def c73_13 : ACode := .seq c73_9 c73_12
def c73_14 : ACode := .ops [
 ⟨some 27, none, .q (.mv (.t 4)), []⟩,
 ⟨some 2, none, .q (.mv (.t 27)), []⟩]
def c73_15 : ACode := .seq c73_14 .ret
def c73_16 : ACode := .seq c73_13 c73_15
def c73_17 : ACode := .seq c73_8 c73_16
def c73_18 : ACode := .seq c73_2 c73_17
def c73_19 : ACode := .seq c73_1 c73_18
def c73_20 : ACode := .seq c73_0 c73_19
@[go_sem] theorem c73_0_wp : type_of% (wp_of c73_0.eq_1) := wp_of c73_0.eq_1
@[go_sem] theorem c73_1_wp : type_of% (wp_of c73_1.eq_1) := wp_of c73_1.eq_1
@[go_sem] theorem c73_2_wp : type_of% (wp_of c73_2.eq_1) := wp_of c73_2.eq_1
@[go_sem] theorem c73_3_wp : type_of% (wp_of c73_3.eq_1) := wp_of c73_3.eq_1
@[go_sem] theorem c73_4_wp : type_of% (wp_of c73_4.eq_1) := wp_of c73_4.eq_1
@[go_sem] theorem c73_5_wp : type_of% (wp_of c73_5.eq_1) := wp_of c73_5.eq_1
@[go_sem] theorem c73_6_wp : type_of% (wp_of c73_6.eq_1) := wp_of c73_6.eq_1
@[go_sem] theorem c73_7_wp : type_of% (wp_of c73_7.eq_1) := wp_of c73_7.eq_1
@[go_sem] theorem c73_8_wp : type_of% (wp_of c73_8.eq_1) := wp_of c73_8.eq_1
@[go_sem] theorem c73_9_wp : type_of% (wp_of c73_9.eq_1) := wp_of c73_9.eq_1
@[go_sem] theorem c73_10_wp : type_of% (wp_of c73_10.eq_1) := wp_of c73_10.eq_1
@[go_sem] theorem c73_11_wp : type_of% (wp_of c73_11.eq_1) := wp_of c73_11.eq_1
@[go_sem] theorem c73_12_wp : type_of% (wp_of c73_12.eq_1) := wp_of c73_12.eq_1
@[go_sem] theorem c73_13_wp : type_of% (wp_of c73_13.eq_1) := wp_of c73_13.eq_1
@[go_sem] theorem c73_14_wp : type_of% (wp_of c73_14.eq_1) := wp_of c73_14.eq_1
@[go_sem] theorem c73_15_wp : type_of% (wp_of c73_15.eq_1) := wp_of c73_15.eq_1
@[go_sem] theorem c73_16_wp : type_of% (wp_of c73_16.eq_1) := wp_of c73_16.eq_1
@[go_sem] theorem c73_17_wp : type_of% (wp_of c73_17.eq_1) := wp_of c73_17.eq_1
@[go_sem] theorem c73_18_wp : type_of% (wp_of c73_18.eq_1) := wp_of c73_18.eq_1
@[go_sem] theorem c73_19_wp : type_of% (wp_of c73_19.eq_1) := wp_of c73_19.eq_1
@[go_sem] theorem c73_20_wp : type_of% (wp_of c73_20.eq_1) := wp_of c73_20.eq_1
def c73 : AFn := ⟨28, [.t 2], c73_20⟩
set_option maxRecDepth 100000 in
theorem c73_ok : compF Tryz.prog Tryz.f73 = some c73 := by kernel_rfl
theorem a73 {args : List AV} {σ : ASt} {R : AV → ASt → Prop} (hl : args.length ≤ 28) (h : c73_20.wp Tryz.prog (RetQ [.t 2] R) (init args) σ) : ACalls Tryz.prog 73 args σ R := acalls_of Tryz.func73 c73_ok hl h
/-! 98: tabular/deci.size -/
def c98_0 : ACode := .ops [
 ⟨some 2, none, .q (.mv (.v (.int .u64 0))), []⟩]
def c98_1 : ACode := .ops [
 ⟨some 3, none, .q (.mv (.t 0)), []⟩,
 ⟨some 4, none, .q (.bin .lss (.t 3) (.v (.int .i64 0))), []⟩]
def c98_2 : ACode := .ops [
 ⟨some 5, none, .q (.mv (.t 0)), []⟩,
 ⟨some 6, none, .q (.un .neg (.t 5)), []⟩,
 ⟨some 7, none, .q (.conv .u64 (.t 6)), []⟩,
 ⟨some 2, none, .q (.mv (.t 7)), []⟩]
def c98_3 : ACode := .seq c98_2 .ret
def c98_4 : ACode := .cond (.t 4) c98_3 .skip
def c98_5 : ACode := .seq c98_1 c98_4
def c98_6 : ACode := .ops [
 ⟨some 8, none, .q (.mv (.t 0)), []⟩,
 ⟨some 9, none, .q (.conv .u64 (.t 8)), []⟩,
 ⟨some 2, none, .q (.mv (.t 9)), []⟩]
def c98_7 : ACode := .seq c98_6 .ret
def c98_8 : ACode := .seq c98_5 c98_7
def c98_9 : ACode := .seq c98_0 c98_8
@[go_sem] theorem c98_0_wp : type_of% (wp_of c98_0.eq_1) := wp_of c98_0.eq_1
@[go_sem] theorem c98_1_wp : type_of% (wp_of c98_1.eq_1) := wp_of c98_1.eq_1
@[go_sem] theorem c98_2_wp : type_of% (wp_of c98_2.eq_1) := wp_of c98_2.eq_1
@[go_sem] theorem c98_3_wp : type_of% (wp_of c98_3.eq_1) := wp_of c98_3.eq_1
@[go_sem] theorem c98_4_wp : type_of% (wp_of c98_4.eq_1) := wp_of c98_4.eq_1
@[go_sem] theorem c98_5_wp : type_of% (wp_of c98_5.eq_1) := wp_of c98_5.eq_1
@[go_sem] theorem c98_6_wp : type_of% (wp_of c98_6.eq_1) := wp_of c98_6.eq_1
@[go_sem] theorem c98_7_wp : type_of% (wp_of c98_7.eq_1) := wp_of c98_7.eq_1
@[go_sem] theorem c98_8_wp : type_of% (wp_of c98_8.eq_1) := wp_of c98_8.eq_1
@[go_sem] theorem c98_9_wp : type_of% (wp_of c98_9.eq_1) := wp_of c98_9.eq_1
def c98 : AFn := ⟨10, [.t 2], c98_9⟩
set_option maxRecDepth 100000 in
theorem c98_ok : compF Tryz.prog Tryz.f98 = some c98 := by kernel_rfl
theorem a98 {args : List AV} {σ : ASt} {R : AV → ASt → Prop} (hl : args.length ≤ 10) (h : c98_9.wp Tryz.prog (RetQ [.t 2] R) (init args) σ) : ACalls Tryz.prog 98 args σ R := acalls_of Tryz.func98 c98_ok hl h
/-! 99: strconv.FormatUint -/
def c99_0 : ACode := .ops [
 ⟨some 4, none, .q (.mv (.v (.str []))), []⟩]
def c99_1 : ACode := .ops [
 ⟨some 5, none, .q (.mv (.t 0)), []⟩,
 ⟨some 6, none, .q (.mv (.t 1)), []⟩,
 ⟨some 7, none, .e (.call 118 [(.t 5), (.t 6)]), []⟩,
 ⟨some 4, none, .q (.mv (.t 7)), []⟩]
def c99_2 : ACode := .seq c99_1 .ret
def c99_3 : ACode := .seq c99_0 c99_2
@[go_sem] theorem c99_0_wp : type_of% (wp_of c99_0.eq_1) := wp_of c99_0.eq_1
@[go_sem] theorem c99_1_wp : type_of% (wp_of c99_1.eq_1) := wp_of c99_1.eq_1
@[go_sem] theorem c99_2_wp : type_of% (wp_of c99_2.eq_1) := wp_of c99_2.eq_1
@[go_sem] theorem c99_3_wp : type_of% (wp_of c99_3.eq_1) := wp_of c99_3.eq_1
def c99 : AFn := ⟨8, [.t 4], c99_3⟩
set_option maxRecDepth 100000 in
theorem c99_ok : compF Tryz.prog Tryz.f99 = some c99 := by kernel_rfl
theorem a99 {args : List AV} {σ : ASt} {R : AV → ASt → Prop} (hl : args.length ≤ 8) (h : c99_3.wp Tryz.prog (RetQ [.t 4] R) (init args) σ) : ACalls Tryz.prog 99 args σ R := acalls_of Tryz.func99 c99_ok hl h
/-! 102: (tabular/deci.Dec).Whole -/
def c102_0 : ACode := .ops [
 ⟨some 2, none, .q (.mv (.v (.int .i64 0))), []⟩]
def c102_1 : ACode := .ops [
 ⟨some 3, none, .q (.mv (.t 0)), []⟩,
 ⟨some 4, none, .q (.bin .quo (.t 3) (.v (.int .i64 10000))), []⟩,
 ⟨some 2, none, .q (.mv (.t 4)), []⟩]
def c102_2 : ACode := .seq c102_1 .ret
def c102_3 : ACode := .seq c102_0 c102_2
@[go_sem] theorem c102_0_wp : type_of% (wp_of c102_0.eq_1) := wp_of c102_0.eq_1
@[go_sem] theorem c102_1_wp : type_of% (wp_of c102_1.eq_1) := wp_of c102_1.eq_1
@[go_sem] theorem c102_2_wp : type_of% (wp_of c102_2.eq_1) := wp_of c102_2.eq_1
@[go_sem] theorem c102_3_wp : type_of% (wp_of c102_3.eq_1) := wp_of c102_3.eq_1
def c102 : AFn := ⟨5, [.t 2], c102_3⟩
set_option maxRecDepth 100000 in
theorem c102_ok : compF Tryz.prog Tryz.f102 = some c102 := by kernel_rfl
theorem a102 {args : List AV} {σ : ASt} {R : AV → ASt → Prop} (hl : args.length ≤ 5) (h : c102_3.wp Tryz.prog (RetQ [.t 2] R) (init args) σ) : ACalls Tryz.prog 102 args σ R := acalls_of Tryz.func102 c102_ok hl h
/-! 107: strings.Cut -/
def c107_0 : ACode := .ops [
 ⟨some 4, none, .q (.mv (.v (.str []))), []⟩,
 ⟨some 5, none, .q (.mv (.v (.str []))), []⟩,
 ⟨some 6, none, .q (.mv (.v (.bool false))), []⟩]
def c107_1 : ACode := .ops [
 ⟨some 7, none, .q (.mv (.t 0)), []⟩,
 ⟨some 8, none, .q (.mv (.t 1)), []⟩,
 ⟨some 9, none, .e (.call 125 [(.t 7), (.t 8)]), []⟩,
 ⟨some 10, none, .q (.ext 0 (.t 9)), []⟩,
 ⟨some 11, none, .q (.ext 1 (.t 9)), []⟩,
 ⟨some 12, none, .q (.ext 2 (.t 9)), []⟩,
 ⟨some 4, none, .q (.mv (.t 10)), []⟩,
 ⟨some 5, none, .q (.mv (.t 11)), []⟩,
 ⟨some 6, none, .q (.mv (.t 12)), []⟩]
def c107_2 : ACode := .seq c107_1 .ret
def c107_3 : ACode := .seq c107_0 c107_2
@[go_sem] theorem c107_0_wp : type_of% (wp_of c107_0.eq_1) := wp_of c107_0.eq_1
@[go_sem] theorem c107_1_wp : type_of% (wp_of c107_1.eq_1) := wp_of c107_1.eq_1
@[go_sem] theorem c107_2_wp : type_of% (wp_of c107_2.eq_1) := wp_of c107_2.eq_1
@[go_sem] theorem c107_3_wp : type_of% (wp_of c107_3.eq_1) := wp_of c107_3.eq_1
def c107 : AFn := ⟨13, [.t 4, .t 5, .t 6], c107_3⟩
set_option maxRecDepth 100000 in
theorem c107_ok : compF Tryz.prog Tryz.f107 = some c107 := by kernel_rfl
theorem a107 {args : List AV} {σ : ASt} {R : AV → ASt → Prop} (hl : args.length ≤ 13) (h : c107_3.wp Tryz.prog (RetQ [.t 4, .t 5, .t 6] R) (init args) σ) : ACalls Tryz.prog 107 args σ R := acalls_of Tryz.func107 c107_ok hl h
/-! 113: tabular/deci.Parse -/
def c113_0 : ACode := .ops [
 ⟨some 2, none, .q (.mv (.v (.int .i64 0))), []⟩,
 ⟨some 3, none, .q (.mv (.v (.bool false))), []⟩]
def c113_1 : ACode := .ops [
 ⟨some 13, none, .q (.mv (.t 0)), []⟩,
 ⟨some 14, none, .e (.call 129 [(.t 13), (.v (.str [45]))]), []⟩,
 ⟨some 12, none, .q (.mv (.t 14)), []⟩,
 ⟨some 15, none, .q (.ext 0 (.t 12)), []⟩,
 ⟨some 16, none, .q (.ext 1 (.t 12)), []⟩,
 ⟨some 4, none, .q (.mv (.t 15)), []⟩,
 ⟨some 5, none, .q (.mv (.t 16)), []⟩]
def c113_2 : ACode := .ops [
 ⟨some 18, none, .q (.mv (.t 4)), []⟩,
 ⟨some 19, none, .e (.call 107 [(.t 18), (.v (.str [46]))]), []⟩,
 ⟨some 17, none, .q (.mv (.t 19)), []⟩,
 ⟨some 20, none, .q (.ext 0 (.t 17)), []⟩,
 ⟨some 21, none, .q (.ext 1 (.t 17)), []⟩,
 ⟨some 22, none, .q (.ext 2 (.t 17)), []⟩,
 ⟨some 6, none, .q (.mv (.t 20)), []⟩,
 ⟨some 7, none, .q (.mv (.t 21)), []⟩,
 ⟨some 8, none, .q (.mv (.t 22)), []⟩]
def c113_3 : ACode := .ops [
 ⟨some 23, none, .q (.mv (.t 6)), []⟩,
 ⟨some 24, none, .q (.bin .eql (.t 23) (.v (.str []))), []⟩,
 ⟨some 25, none, .q (.mv (.t 24)), []⟩,
 ⟨some 26, some (25, false), .q (.mv (.t 8)), []⟩,
 ⟨some 27, some (25, false), .q (.mv (.t 26)), []⟩,
 ⟨some 28, some (27, true), .q (.mv (.t 7)), []⟩,
 ⟨some 29, some (27, true), .q (.bin .eql (.t 28) (.v (.str []))), []⟩,
 ⟨some 30, some (27, true), .q (.mv (.t 29)), []⟩,
 ⟨some 31, some (30, false), .q (.mv (.t 7)), []⟩,
 ⟨some 32, some (30, false), .q (.lenS (.t 31)), []⟩,
 ⟨some 33, some (30, false), .q (.bin .gtr (.t 32) (.v (.int .i64 4))), []⟩,
 ⟨some 34, some (27, true), .q (.pick (.t 30) (.v (.bool true)) (.t 33)), []⟩,
 ⟨some 35, some (25, false), .q (.pick (.t 27) (.t 34) (.v (.bool false))), []⟩,
 ⟨some 36, none, .q (.pick (.t 25) (.v (.bool true)) (.t 35)), []⟩]
def c113_4 : ACode := .ops [
 ⟨some 2, none, .q (.mv (.v (.int .i64 0))), []⟩,
 ⟨some 3, none, .q (.mv (.v (.bool false))), []⟩]
def c113_5 : ACode := .seq c113_4 .ret
def c113_6 : ACode := .cond (.t 36) c113_5 .skip
def c113_7 : ACode := .seq c113_3 c113_6
def c113_8 : ACode := .ops [
 ⟨some 9, none, .q (.mv (.v (.int .u64 0))), []⟩]
def c113_9 : ACode := .ops [
 ⟨some 37, none, .q (.mv (.t 6)), []⟩,
 ⟨some 38, none, .q (.mv (.t 7)), []⟩,
 ⟨some 39, none, .q (.bin .add (.t 37) (.t 38)), []⟩,
 ⟨some 40, none, .q (.mv (.t 7)), []⟩,
 ⟨some 41, none, .q (.lenS (.t 40)), []⟩,
 ⟨some 42, none, .q (.slfrom (true, 0) (.v (.str [48, 48, 48, 48])) (.t 41)), []⟩,
 ⟨some 43, none, .q (.bin .add (.t 39) (.t 42)), []⟩,
 ⟨some 44, none, .e (.s2b (.t 43)), []⟩,
 ⟨some 45, none, .q (.len (.t 44)), []⟩,
 ⟨some 46, none, .q (.mv (.v (.int .i64 0))), []⟩]
def c113_10 : ACode := .ops [
 ⟨some 47, none, .q (.bin .lss (.t 46) (.t 45)), []⟩]
def c113_11 : ACode := .cond (.t 47) .skip (.exit 0)
def c113_12 : ACode := .ops [
 ⟨some 48, none, .q (.ia 1 (.t 44) (.t 46)), []⟩,
 ⟨some 49, none, .q (.ld none (.t 48)), []⟩,
 ⟨some 11, none, .q (.mv (.t 49)), []⟩]
def c113_13 : ACode := .ops [
 ⟨some 50, none, .q (.mv (.t 11)), []⟩,
 ⟨some 51, none, .q (.bin .lss (.t 50) (.v (.int .u8 48))), []⟩,
 ⟨some 52, none, .q (.mv (.t 51)), []⟩,
 ⟨some 53, some (52, false), .q (.mv (.t 11)), []⟩,
 ⟨some 54, some (52, false), .q (.bin .gtr (.t 53) (.v (.int .u8 57))), []⟩,
 ⟨some 55, none, .q (.pick (.t 52) (.v (.bool true)) (.t 54)), []⟩,
 ⟨some 56, none, .q (.mv (.t 55)), []⟩,
 ⟨some 57, some (56, false), .q (.mv (.t 9)), []⟩,
 ⟨some 58, some (56, false), .q (.bin .gtr (.t 57) (.v (.int .u64 99999999999999999))), []⟩,
 ⟨some 59, none, .q (.pick (.t 56) (.v (.bool true)) (.t 58)), []⟩]
def c113_14 : ACode := .ops [
 ⟨some 2, none, .q (.mv (.v (.int .i64 0))), []⟩,
 ⟨some 3, none, .q (.mv (.v (.bool false))), []⟩]
def c113_15 : ACode := .seq c113_14 .ret
def c113_16 : ACode := .cond (.t 59) c113_15 .skip
def c113_17 : ACode := .seq c113_13 c113_16
def c113_18 : ACode := .ops [
 ⟨some 60, none, .q (.mv (.t 9)), []⟩,
 ⟨some 61, none, .q (.bin .mul (.v (.int .u64 10)) (.t 60)), []⟩,
 ⟨some 62, none, .q (.mv (.t 11)), []⟩,
 ⟨some 63, none, .q (.bin .sub (.t 62) (.v (.int .u8 48))), []⟩,
 ⟨some 64, none, .q (.conv .u64 (.t 63)), []⟩,
 ⟨some 65, none, .q (.bin .add (.t 61) (.t 64)), []⟩,
 ⟨some 9, none, .q (.mv (.t 65)), []⟩]
def c113_19 : ACode := .seq c113_17 c113_18
def c113_20 : ACode := .seq c113_12 c113_19
def c113_21 : ACode := .block 1 c113_20
def c113_22 : ACode := .ops [
 ⟨some 66, none, .q (.bin .add (.t 46) (.v (.int .i64 1))), []⟩,
 ⟨some 46, none, .q (.mv (.t 66)), []⟩]
def c113_23 : ACode := .seq c113_21 c113_22
def c113_24 : ACode := .seq c113_11 c113_23
def c113_25 : ACode := .seq c113_10 c113_24
def c113_26 : ACode := .loop c113_25
def c113_27 : ACode := .block 0 c113_26
def c113_28 : ACode := .seq c113_9 c113_27
def c113_29 : ACode := .ops [
 ⟨some 67, none, .q (.mv (.t 5)), []⟩,
 ⟨some 68, none, .q (.mv (.t 9)), []⟩,
 ⟨some 69, none, .e (.call 130 [(.t 67), (.v (.int .u64 0)), (.t 68)]), []⟩,
 ⟨some 70, none, .q (.ext 0 (.t 69)), []⟩,
 ⟨some 71, none, .q (.ext 1 (.t 69)), []⟩,
 ⟨some 2, none, .q (.mv (.t 70)), []⟩,
 ⟨some 3, none, .q (.mv (.t 71)), []⟩]
def c113_30 : ACode := .seq c113_29 .ret
def c113_31 : ACode := .seq c113_28 c113_30
def c113_32 : ACode := .seq c113_8 c113_31
def c113_33 : ACode := .seq c113_7 c113_32
def c113_34 : ACode := .seq c113_2 c113_33
def c113_35 : ACode := .seq c113_1 c113_34
def c113_36 : ACode := .seq c113_0 c113_35
@[go_sem] theorem c113_0_wp : type_of% (wp_of c113_0.eq_1) := wp_of c113_0.eq_1
@[go_sem] theorem c113_1_wp : type_of% (wp_of c113_1.eq_1) := wp_of c113_1.eq_1
@[go_sem] theorem c113_2_wp : type_of% (wp_of c113_2.eq_1) := wp_of c113_2.eq_1
@[go_sem] theorem c113_3_wp : type_of% (wp_of c113_3.eq_1) := wp_of c113_3.eq_1
@[go_sem] theorem c113_4_wp : type_of% (wp_of c113_4.eq_1) := wp_of c113_4.eq_1
@[go_sem] theorem c113_5_wp : type_of% (wp_of c113_5.eq_1) := wp_of c113_5.eq_1
@[go_sem] theorem c113_6_wp : type_of% (wp_of c113_6.eq_1) := wp_of c113_6.eq_1
@[go_sem] theorem c113_7_wp : type_of% (wp_of c113_7.eq_1) := wp_of c113_7.eq_1
@[go_sem] theorem c113_8_wp : type_of% (wp_of c113_8.eq_1) := wp_of c113_8.eq_1
@[go_sem] theorem c113_9_wp : type_of% (wp_of c113_9.eq_1) := wp_of c113_9.eq_1
@[go_sem] theorem c113_10_wp : type_of% (wp_of c113_10.eq_1) := wp_of c113_10.eq_1
@[go_sem] theorem c113_11_wp : type_of% (wp_of c113_11.eq_1) := wp_of c113_11.eq_1
@[go_sem] theorem c113_12_wp : type_of% (wp_of c113_12.eq_1) := wp_of c113_12.eq_1
@[go_sem] theorem c113_13_wp : type_of% (wp_of c113_13.eq_1) := wp_of c113_13.eq_1
@[go_sem] theorem c113_14_wp : type_of% (wp_of c113_14.eq_1) := wp_of c113_14.eq_1
@[go_sem] theorem c113_15_wp : type_of% (wp_of c113_15.eq_1) := wp_of c113_15.eq_1
@[go_sem] theorem c113_16_wp : type_of% (wp_of c113_16.eq_1) := wp_of c113_16.eq_1
@[go_sem] theorem c113_17_wp : type_of% (wp_of c113_17.eq_1) := wp_of c113_17.eq_1
@[go_sem] theorem c113_18_wp : type_of% (wp_of c113_18.eq_1) := wp_of c113_18.eq_1
@[go_sem] theorem c113_19_wp : type_of% (wp_of c113_19.eq_1) := wp_of c113_19.eq_1
@[go_sem] theorem c113_20_wp : type_of% (wp_of c113_20.eq_1) := wp_of c113_20.eq_1
@[go_sem] theorem c113_21_wp : type_of% (wp_of c113_21.eq_1) := wp_of c113_21.eq_1
@[go_sem] theorem c113_22_wp : type_of% (wp_of c113_22.eq_1) := wp_of c113_22.eq_1
@[go_sem] theorem c113_23_wp : type_of% (wp_of c113_23.eq_1) := wp_of c113_23.eq_1
@[go_sem] theorem c113_24_wp : type_of% (wp_of c113_24.eq_1) := wp_of c113_24.eq_1
@[go_sem] theorem c113_25_wp : type_of% (wp_of c113_25.eq_1) := wp_of c113_25.eq_1
@[go_sem] theorem c113_26_wp : type_of% (wp_of c113_26.eq_1) := wp_of c113_26.eq_1
@[go_sem] theorem c113_27_wp : type_of% (wp_of c113_27.eq_1) := wp_of c113_27.eq_1
@[go_sem] theorem c113_28_wp : type_of% (wp_of c113_28.eq_1) := wp_of c113_28.eq_1
@[go_sem] theorem c113_29_wp : type_of% (wp_of c113_29.eq_1) := wp_of c113_29.eq_1
@[go_sem] theorem c113_30_wp : type_of% (wp_of c113_30.eq_1) := wp_of c113_30.eq_1
@[go_sem] theorem c113_31_wp : type_of% (wp_of c113_31.eq_1) := wp_of c113_31.eq_1
@[go_sem] theorem c113_32_wp : type_of% (wp_of c113_32.eq_1) := wp_of c113_32.eq_1
@[go_sem] theorem c113_33_wp : type_of% (wp_of c113_33.eq_1) := wp_of c113_33.eq_1
@[go_sem] theorem c113_34_wp : type_of% (wp_of c113_34.eq_1) := wp_of c113_34.eq_1
@[go_sem] theorem c113_35_wp : type_of% (wp_of c113_35.eq_1) := wp_of c113_35.eq_1
@[go_sem] theorem c113_36_wp : type_of% (wp_of c113_36.eq_1) := wp_of c113_36.eq_1
def c113 : AFn := ⟨72, [.t 2, .t 3], c113_36⟩
set_option maxRecDepth 100000 in
theorem c113_ok : compF Tryz.prog Tryz.f113 = some c113 := by kernel_rfl
theorem a113 {args : List AV} {σ : ASt} {R : AV → ASt → Prop} (hl : args.length ≤ 72) (h : c113_36.wp Tryz.prog (RetQ [.t 2, .t 3] R) (init args) σ) : ACalls Tryz.prog 113 args σ R := acalls_of Tryz.func113 c113_ok hl h
/-! 125: internal/stringslite.Cut -/
def c125_0 : ACode := .ops [
 ⟨some 4, none, .q (.mv (.v (.str []))), []⟩,
 ⟨some 5, none, .q (.mv (.v (.str []))), []⟩,
 ⟨some 6, none, .q (.mv (.v (.bool false))), []⟩]
def c125_1 : ACode := .ops [
 ⟨some 8, none, .q (.mv (.t 0)), []⟩,
 ⟨some 9, none, .q (.mv (.t 1)), []⟩,
 ⟨some 10, none, .e (.call 128 [(.t 8), (.t 9)]), []⟩,
 ⟨some 7, none, .q (.mv (.t 10)), []⟩]
def c125_2 : ACode := .ops [
 ⟨some 11, none, .q (.mv (.t 7)), []⟩,
 ⟨some 12, none, .q (.bin .geq (.t 11) (.v (.int .i64 0))), []⟩]
def c125_3 : ACode := .ops [
 ⟨some 13, none, .q (.mv (.t 0)), []⟩,
 ⟨some 14, none, .q (.mv (.t 7)), []⟩,
 ⟨some 15, none, .q (.slto (true, 0) (.t 13) (.t 14)), []⟩,
 ⟨some 16, none, .q (.mv (.t 0)), []⟩,
 ⟨some 17, none, .q (.mv (.t 7)), []⟩,
 ⟨some 18, none, .q (.mv (.t 1)), []⟩,
 ⟨some 19, none, .q (.lenS (.t 18)), []⟩,
 ⟨some 20, none, .q (.bin .add (.t 17) (.t 19)), []⟩,
 ⟨some 21, none, .q (.slfrom (true, 0) (.t 16) (.t 20)), []⟩,
 ⟨some 4, none, .q (.mv (.t 15)), []⟩,
 ⟨some 5, none, .q (.mv (.t 21)), []⟩,
 ⟨some 6, none, .q (.mv (.v (.bool true))), []⟩]
def c125_4 : ACode := .seq c125_3 .ret
def c125_5 : ACode := .cond (.t 12) c125_4 .skip
def c125_6 : ACode := .seq c125_2 c125_5
def c125_7 : ACode := .seq c125_1 c125_6
def c125_8 : ACode := .ops [
 ⟨some 22, none, .q (.mv (.t 0)), []⟩,
 ⟨some 4, none, .q (.mv (.t 22)), []⟩,
 ⟨some 5, none, .q (.mv (.v (.str []))), []⟩,
 ⟨some 6, none, .q (.mv (.v (.bool false))), []⟩]
def c125_9 : ACode := .seq c125_8 .ret
def c125_10 : ACode := .seq c125_7 c125_9
def c125_11 : ACode := .seq c125_0 c125_10
@[go_sem] theorem c125_0_wp : type_of% (wp_of c125_0.eq_1) := wp_of c125_0.eq_1
@[go_sem] theorem c125_1_wp : type_of% (wp_of c125_1.eq_1) := wp_of c125_1.eq_1
@[go_sem] theorem c125_2_wp : type_of% (wp_of c125_2.eq_1) := wp_of c125_2.eq_1
@[go_sem] theorem c125_3_wp : type_of% (wp_of c125_3.eq_1) := wp_of c125_3.eq_1
@[go_sem] theorem c125_4_wp : type_of% (wp_of c125_4.eq_1) := wp_of c125_4.eq_1
@[go_sem] theorem c125_5_wp : type_of% (wp_of c125_5.eq_1) := wp_of c125_5.eq_1
@[go_sem] theorem c125_6_wp : type_of% (wp_of c125_6.eq_1) := wp_of c125_6.eq_1
@[go_sem] theorem c125_7_wp : type_of% (wp_of c125_7.eq_1) := wp_of c125_7.eq_1
@[go_sem] theorem c125_8_wp : type_of% (wp_of c125_8.eq_1) := wp_of c125_8.eq_1
@[go_sem] theorem c125_9_wp : type_of% (wp_of c125_9.eq_1) := wp_of c125_9.eq_1
@[go_sem] theorem c125_10_wp : type_of% (wp_of c125_10.eq_1) := wp_of c125_10.eq_1
@[go_sem] theorem c125_11_wp : type_of% (wp_of c125_11.eq_1) := wp_of c125_11.eq_1
def c125 : AFn := ⟨23, [.t 4, .t 5, .t 6], c125_11⟩
set_option maxRecDepth 100000 in
theorem c125_ok : compF Tryz.prog Tryz.f125 = some c125 := by kernel_rfl
theorem a125 {args : List AV} {σ : ASt} {R : AV → ASt → Prop} (hl : args.length ≤ 23) (h : c125_11.wp Tryz.prog (RetQ [.t 4, .t 5, .t 6] R) (init args) σ) : ACalls Tryz.prog 125 args σ R := acalls_of Tryz.func125 c125_ok hl h
/-! 130: tabular/deci.made -/
def c130_0 : ACode := .ops [
 ⟨some 6, none, .q (.mv (.v (.int .i64 0))), []⟩,
 ⟨some 7, none, .q (.mv (.v (.bool false))), []⟩]
def c130_1 : ACode := .ops [
 ⟨some 8, none, .q (.mv (.t 1)), []⟩,
 ⟨some 9, none, .q (.bin .gtr (.t 8) (.v (.int .u64 0))), []⟩,
 ⟨some 10, none, .q (.mv (.t 9)), []⟩,
 ⟨some 11, some (10, false), .q (.mv (.t 2)), []⟩,
 ⟨some 12, some (10, false), .q (.bin .gtr (.t 11) (.v (.int .u64 999999999999999999))), []⟩,
 ⟨some 13, none, .q (.pick (.t 10) (.v (.bool true)) (.t 12)), []⟩]
def c130_2 : ACode := .ops [
 ⟨some 6, none, .q (.mv (.v (.int .i64 0))), []⟩,
 ⟨some 7, none, .q (.mv (.v (.bool false))), []⟩]
def c130_3 : ACode := .seq c130_2 .ret
def c130_4 : ACode := .cond (.t 13) c130_3 .skip
def c130_5 : ACode := .seq c130_1 c130_4
def c130_6 : ACode := .ops [
 ⟨some 14, none, .q (.mv (.t 0)), []⟩]
def c130_7 : ACode := .ops [
 ⟨some 15, none, .q (.mv (.t 2)), []⟩,
 ⟨some 16, none, .q (.conv .i64 (.t 15)), []⟩,
 ⟨some 17, none, .q (.un .neg (.t 16)), []⟩,
 ⟨some 6, none, .q (.mv (.t 17)), []⟩,
 ⟨some 7, none, .q (.mv (.v (.bool true))), []⟩]
def c130_8 : ACode := .seq c130_7 .ret
def c130_9 : ACode := .cond (.t 14) c130_8 .skip
def c130_10 : ACode := .seq c130_6 c130_9
def c130_11 : ACode := .ops [
 ⟨some 18, none, .q (.mv (.t 2)), []⟩,
 ⟨some 19, none, .q (.conv .i64 (.t 18)), []⟩,
 ⟨some 6, none, .q (.mv (.t 19)), []⟩,
 ⟨some 7, none, .q (.mv (.v (.bool true))), []⟩]
def c130_12 : ACode := .seq c130_11 .ret
def c130_13 : ACode := .seq c130_10 c130_12
def c130_14 : ACode := .seq c130_5 c130_13
def c130_15 : ACode := .seq c130_0 c130_14
@[go_sem] theorem c130_0_wp : type_of% (wp_of c130_0.eq_1) := wp_of c130_0.eq_1
@[go_sem] theorem c130_1_wp : type_of% (wp_of c130_1.eq_1) := wp_of c130_1.eq_1
@[go_sem] theorem c130_2_wp : type_of% (wp_of c130_2.eq_1) := wp_of c130_2.eq_1
@[go_sem] theorem c130_3_wp : type_of% (wp_of c130_3.eq_1) := wp_of c130_3.eq_1
@[go_sem] theorem c130_4_wp : type_of% (wp_of c130_4.eq_1) := wp_of c130_4.eq_1
@[go_sem] theorem c130_5_wp : type_of% (wp_of c130_5.eq_1) := wp_of c130_5.eq_1
@[go_sem] theorem c130_6_wp : type_of% (wp_of c130_6.eq_1) := wp_of c130_6.eq_1
@[go_sem] theorem c130_7_wp : type_of% (wp_of c130_7.eq_1) := wp_of c130_7.eq_1
@[go_sem] theorem c130_8_wp : type_of% (wp_of c130_8.eq_1) := wp_of c130_8.eq_1
@[go_sem] theorem c130_9_wp : type_of% (wp_of c130_9.eq_1) := wp_of c130_9.eq_1
@[go_sem] theorem c130_10_wp : type_of% (wp_of c130_10.eq_1) := wp_of c130_10.eq_1
@[go_sem] theorem c130_11_wp : type_of% (wp_of c130_11.eq_1) := wp_of c130_11.eq_1
@[go_sem] theorem c130_12_wp : type_of% (wp_of c130_12.eq_1) := wp_of c130_12.eq_1
@[go_sem] theorem c130_13_wp : type_of% (wp_of c130_13.eq_1) := wp_of c130_13.eq_1
@[go_sem] theorem c130_14_wp : type_of% (wp_of c130_14.eq_1) := wp_of c130_14.eq_1
@[go_sem] theorem c130_15_wp : type_of% (wp_of c130_15.eq_1) := wp_of c130_15.eq_1
def c130 : AFn := ⟨20, [.t 6, .t 7], c130_15⟩
set_option maxRecDepth 100000 in
theorem c130_ok : compF Tryz.prog Tryz.f130 = some c130 := by kernel_rfl
theorem a130 {args : List AV} {σ : ASt} {R : AV → ASt → Prop} (hl : args.length ≤ 20) (h : c130_15.wp Tryz.prog (RetQ [.t 6, .t 7] R) (init args) σ) : ACalls Tryz.prog 130 args σ R := acalls_of Tryz.func130 c130_ok hl h
end Go.A
namespace Go.A
open Go.Proofs
set_option maxRecDepth 100000
set_option linter.unusedSimpArgs false
set_option linter.unusedVariables false
def greatC (c : UInt8) : UInt8 := if 97 ≤ c.toNat ∧ c.toNat ≤ 122 then UInt8.ofNat (c.toNat - 32) else c
def greatP (l : List UInt8) : List UInt8 := l.map greatC
end Go.A
namespace Go.A
open Go.Proofs Go.Lib
set_option maxRecDepth 100000
set_option linter.unusedSimpArgs false
set_option linter.unusedVariables false
def signsN (l : List UInt8) : Nat := runeCount ⟨⟨l⟩⟩
theorem signsN_le (l : List UInt8) : signsN l ≤ l.length := runeCount_le ⟨⟨l⟩⟩
def wordB (c : UInt8) : Bool := decide ((48 ≤ c.toNat ∧ c.toNat ≤ 57) ∨ (97 ≤ c.toNat ∧ c.toNat ≤ 122) ∨ (65 ≤ c.toNat ∧ c.toNat ≤ 90) ∨ c.toNat = 95 ∨ c.toNat = 36 ∨ c.toNat = 46)
def digB (c : UInt8) : Bool := decide (48 ≤ c.toNat ∧ c.toNat ≤ 57)
def nameB (s : List UInt8) : Bool := decide (s ≠ []) && s.all (fun c => wordB c && decide (c.toNat ≠ 36)) && !((s.head?.map fun c => digB c || decide (c.toNat = 46)).getD false)
def cutDot : List UInt8 → List UInt8 × Option (List UInt8)
  | [] => ([], none)
  | c :: r => if c.toNat = 46 then ([], some r) else (c :: (cutDot r).1, (cutDot r).2)
def numB (s : List UInt8) : Bool :=
  match cutDot s with
  | (w, none) => decide (w ≠ []) && w.all digB
  | (w, some p) => decide (w ≠ []) && decide (p ≠ []) && decide (p.length ≤ 4) && (w ++ p).all digB
def refB (s : List UInt8) : Bool := (parseP s).2
inductive Step where
  | bad (k : Nat)
  | blank
  | tok (kind : Int) (text : List UInt8) (n : Nat)
  deriving DecidableEq
def wordsS (r : List UInt8) : Step :=
  let n := runL wordB r
  let w := r.take n
  if numB w then .tok 1 w n else if refB w then .tok 4 (greatP w) n else if nameB w then .tok 3 (greatP w) n else .bad 0
def quotedF : Nat → List UInt8 → Nat → List UInt8 → Step
  | 0, _, _, _ => .bad 0
  | k + 1, r, p, acc =>
    if r = [] then .bad 0
    else if decodeL r = (65533, 1) then .bad (1 + p)
    else if (decodeL r).1 ≠ 34 then quotedF k (r.drop (decodeL r).2) (p + (decodeL r).2) (acc ++ encodeRune ((decodeL r).1 : Int))
    else if r[1]? = some 34 then quotedF k (r.drop 2) (p + 2) (acc ++ [34])
    else .tok 2 acc (p + 2)
def errTexts : List (List UInt8) := [[35, 68, 73, 86, 47, 48, 33], [35, 78, 85, 77, 33], [35, 86, 65, 76, 85, 69, 33], [35, 82, 69, 70, 33], [35, 78, 47, 65], [35, 78, 65, 77, 69, 63], [35, 67, 89, 67, 76, 69, 33]]
def failS (r : List UInt8) : List (List UInt8) → Step
  | [] => .bad 0
  | e :: es => if e.length ≤ r.length ∧ greatP (r.take e.length) = e then .tok 5 e e.length else failS r es
def alikeP (c : Int) : List UInt8 :=
  if c = 8804 then [60, 61] else if c = 8805 then [62, 61] else if c = 8800 then [60, 62] else if c = 215 then [42] else if c = 247 then [47] else if c = 8722 then [45] else []
def twos : List (List UInt8) := [[60, 61], [62, 61], [60, 62]]
def twoS (r : List UInt8) : List (List UInt8) → Option (List UInt8)
  | [] => none
  | e :: es => if e.isPrefixOf r then some e else twoS r es
def opChars : List UInt8 := [43, 45, 42, 47, 94, 38, 61, 60, 62, 37, 40, 41, 58, 44]
def opS (c : Int) (n : Nat) (r : List UInt8) : Step :=
  if alikeP c ≠ [] then .tok 6 (alikeP c) n
  else match twoS r twos with
    | some e => .tok 6 e 2
    | none => if (r.headD 0) ∈ opChars then .tok 6 (r.take 1) 1 else .bad 0
def stepP (r : List UInt8) : Step :=
  let c := (decodeL r).1
  if decodeL r = (65533, 1) then .bad 0
  else if c = 32 ∨ c = 9 ∨ c = 10 then .blank
  else if c < 128 ∧ wordB (UInt8.ofNat c) = true then wordsS r
  else if c = 34 then quotedF (r.length) (r.drop 1) 0 []
  else if c = 35 then failS r errTexts
  else opS c (decodeL r).2 r
structure Tok where
  kind : Int
  text : List UInt8
  at' : Nat
  col : Nat
  deriving DecidableEq
def lexF : Nat → List UInt8 → Nat → Nat → List Tok → List Tok × Nat × Int
  | 0, _, a, _, acc => ([], a, 10)
  | k + 1, r, a, c, acc =>
    if r = [] then (acc ++ [⟨0, [], a, c⟩], 0, 0)
    else match stepP r with
      | .bad j => ([], a + j, 10)
      | .blank => lexF k (r.drop 1) (a + 1) (c + 1) acc
      | .tok kind t n => lexF k (r.drop n) (a + n) (c + signsN (r.take n)) (acc ++ [⟨kind, t, a, c⟩])
def lexP (s : List UInt8) : List Tok × Nat × Int := if 2000 < s.length then ([], 0, 11) else lexF (s.length + 1) s 0 0 []
def tokAV (t : Tok) : AV := .agg [.int .i64 t.kind, .str t.text, .int .i64 t.at', .int .i64 t.col]
end Go.A
namespace Go.A
set_option linter.unusedSimpArgs false
set_option linter.unusedVariables false
inductive Nd where
  | mk (op n : Int) (s : List UInt8) (a b : Ref) (kids : List Nd)
instance : Inhabited Nd := ⟨.mk 0 0 [] .zero .zero []⟩
def Nd.op : Nd → Int | .mk op _ _ _ _ _ => op
mutual
def Nd.av : Nd → AV
  | .mk op n s a b kids => .agg [.int .i64 op, .int .i64 n, .str s, .int .i64 a.row, .int .i64 a.col, .bool a.absRow, .bool a.absCol, .int .i64 b.row, .int .i64 b.col, .bool b.absRow, .bool b.absCol, .sl .shr (Nd.avs kids)]
def Nd.avs : List Nd → List AV
  | [] => []
  | x :: xs => x.av :: Nd.avs xs
end
theorem Nd.avs_map : ∀ l : List Nd, Nd.avs l = l.map Nd.av
  | [] => rfl
  | x :: xs => by rw [Nd.avs, Nd.avs_map xs]; rfl
theorem Nd.av_eq (op n : Int) (s : List UInt8) (a b : Ref) (kids : List Nd) : (Nd.mk op n s a b kids).av = .agg [.int .i64 op, .int .i64 n, .str s, .int .i64 a.row, .int .i64 a.col, .bool a.absRow, .bool a.absCol, .int .i64 b.row, .int .i64 b.col, .bool b.absRow, .bool b.absCol, .sl .shr (kids.map Nd.av)] := by
  rw [Nd.av, Nd.avs_map]
def Nd.cs (op n : Int) (s : List UInt8) (a b : Ref) (L : List AV) : List AV := [.int .i64 op, .int .i64 n, .str s, .int .i64 a.row, .int .i64 a.col, .bool a.absRow, .bool a.absCol, .int .i64 b.row, .int .i64 b.col, .bool b.absRow, .bool b.absCol, .sl .shr L]
theorem Nd.av_cs (op n : Int) (s : List UInt8) (a b : Ref) (kids : List Nd) : (Nd.mk op n s a b kids).av = .agg (Nd.cs op n s a b (kids.map Nd.av)) := Nd.av_eq ..
section
variable {op n : Int} {s : List UInt8} {a b : Ref} {L : List AV}
@[go_sem] theorem cs_0 : (Nd.cs op n s a b L)[0]? = some (.int .i64 op) := id rfl
@[go_sem] theorem cs_1 : (Nd.cs op n s a b L)[1]? = some (.int .i64 n) := id rfl
@[go_sem] theorem cs_2 : (Nd.cs op n s a b L)[2]? = some (.str s) := id rfl
@[go_sem] theorem cs_11 : (Nd.cs op n s a b L)[11]? = some (.sl .shr L) := id rfl
@[go_sem] theorem cs_len : (Nd.cs op n s a b L).length = 12 := id rfl
@[go_sem] theorem cs_leaves : leaves (Nd.cs op n s a b L) = true := id rfl
@[go_sem] theorem cs_take : (Nd.cs op n s a b L).take 12 = Nd.cs op n s a b L := id rfl
@[go_sem] theorem cs_ta : ((Nd.cs op n s a b L).drop 3).take 4 = [.int .i64 a.row, .int .i64 a.col, .bool a.absRow, .bool a.absCol] := id rfl
@[go_sem] theorem cs_tb : ((Nd.cs op n s a b L).drop 7).take 4 = [.int .i64 b.row, .int .i64 b.col, .bool b.absRow, .bool b.absCol] := id rfl
end
theorem Nd.av_len (n : Nd) : n.av.cells.length = 12 := by cases n; rfl
theorem Nd.av_leaves (n : Nd) : leaves n.av.cells = true := by cases n; rfl
theorem Nd.get {l : List Nd} {i : Nat} {x : Nd} (h : l[i]? = some x) : (l.map Nd.av)[i]? = some x.av := by rw [List.getElem?_map, h]; rfl
mutual
theorem Nd.deep : ∀ n : Nd, Go.A.deep n.av = n.av
  | .mk op n s a b kids => by
    rw [Nd.av, Go.A.deep]
    simp only [Go.A.deeps, Go.A.deep, Nd.deeps kids]
theorem Nd.deeps : ∀ l : List Nd, Go.A.deeps (Nd.avs l) = Nd.avs l
  | [] => rfl
  | x :: xs => by rw [Nd.avs, Go.A.deeps, Nd.deep x, Nd.deeps xs]
end
mutual
def Nd.size : Nd → Nat
  | .mk _ _ _ _ _ kids => 1 + Nd.sizes kids
def Nd.sizes : List Nd → Nat
  | [] => 0
  | x :: xs => x.size + Nd.sizes xs
end
theorem Nd.size_kid : ∀ {l : List Nd} {x : Nd}, x ∈ l → x.size ≤ Nd.sizes l
  | [], _, h => by cases h
  | y :: l, x, h => by
    rw [Nd.sizes]
    rcases List.mem_cons.1 h with rfl | h
    · omega
    · have := Nd.size_kid h; omega
theorem Nd.size_pos (n : Nd) : 0 < n.size := by cases n; rw [Nd.size]; omega
def levelP (op : Int) : Int :=
  if op = 7 ∨ op = 8 then 6 else if op = 9 then 7 else if op < 10 ∨ 22 ≤ op then 8
  else if op ≤ 11 then 3 else if op ≤ 13 then 4 else if op = 14 then 5 else if op = 15 then 2 else 1
def signL : List (List UInt8) := [[43], [45], [42], [47], [94], [38], [61], [60, 62], [60], [60, 61], [62], [62, 61]]
def errL : List (List UInt8) := [[35, 68, 73, 86, 47, 48, 33], [35, 78, 85, 77, 33], [35, 86, 65, 76, 85, 69, 33], [35, 82, 69, 70, 33], [35, 78, 47, 65], [35, 78, 65, 77, 69, 63], [35, 67, 89, 67, 76, 69, 33]]
def failT (op n : Int) : List UInt8 := if op ≠ 4 ∨ n.tdiv 10000 < 1 ∨ 7 < n.tdiv 10000 then [] else errL.getD (n.tdiv 10000 - 1).toNat []
def truthP (b : Bool) : List UInt8 := if b = true then [84, 82, 85, 69] else [70, 65, 76, 83, 69]
def quotT (s : List UInt8) : List UInt8 := 34 :: (s.flatMap fun c => if c = 34 then [34, 34] else [c]) ++ [34]
def insT (least : Int) (op : Int) (t : List UInt8) : List UInt8 := if least ≤ levelP op then t else 40 :: t ++ [41]
def joinC : List (Int × List UInt8) → List UInt8
  | [] => []
  | p :: r => p.2 ++ r.flatMap fun q => 44 :: q.2
def spellK (op n : Int) (s : List UInt8) (a b : Ref) (ks : List (Int × List UInt8)) : List UInt8 :=
  if op = 1 then textD n else if op = 2 then quotT s else if op = 3 then truthP (!decide (n = 0)) else if op = 4 then failT op n else if op = 5 then textP a else if op = 6 then textP a ++ [58] ++ textP b
  else if op = 7 ∨ op = 8 then (if op = 7 then 45 else 43) :: insT 6 (ks.getD 0 (0, [])).1 (ks.getD 0 (0, [])).2
  else if op = 9 then insT 7 (ks.getD 0 (0, [])).1 (ks.getD 0 (0, [])).2 ++ [37]
  else if op = 22 then s ++ 40 :: joinC ks ++ [41]
  else if op = 23 then []
  else insT (levelP op) (ks.getD 0 (0, [])).1 (ks.getD 0 (0, [])).2 ++ signL.getD (op - 10).toNat [] ++ insT (levelP op + 1) (ks.getD 1 (0, [])).1 (ks.getD 1 (0, [])).2
mutual
def Nd.spell : Nd → List UInt8
  | .mk op n s a b kids => spellK op n s a b (Nd.spells kids)
def Nd.spells : List Nd → List (Int × List UInt8)
  | [] => []
  | x :: xs => (x.op, x.spell) :: Nd.spells xs
end
theorem Nd.spells_map : ∀ l : List Nd, Nd.spells l = l.map fun x => (x.op, x.spell)
  | [] => rfl
  | x :: xs => by rw [Nd.spells, Nd.spells_map xs]; rfl
def nodeOk (op n : Int) (s : List UInt8) (a b : Ref) (k : Nat) : Prop :=
  (1 ≤ op ∧ op ≤ 23) ∧ (op = 1 → n.natAbs ≤ 999999999999999999) ∧ (op = 2 → s.length ≤ 100000) ∧ (op = 4 → 1 ≤ n.tdiv 10000 ∧ n.tdiv 10000 ≤ 7) ∧ (op = 22 → s ≠ []) ∧ (op = 5 ∨ op = 6 → a.good = true) ∧ (op = 6 → b.good = true) ∧ (op = 7 ∨ op = 8 ∨ op = 9 → 1 ≤ k) ∧ (10 ≤ op ∧ op ≤ 21 → 2 ≤ k) ∧ k ≤ 1000000
mutual
def Nd.ok : Nd → Prop
  | .mk op n s a b kids => nodeOk op n s a b kids.length ∧ Nd.oks kids
def Nd.oks : List Nd → Prop
  | [] => True
  | x :: xs => x.ok ∧ Nd.oks xs
end
theorem Nd.oks_mem : ∀ {l : List Nd}, Nd.oks l ↔ ∀ x ∈ l, x.ok
  | [] => by simp [Nd.oks]
  | y :: l => by rw [Nd.oks, Nd.oks_mem (l := l)]; simp
end Go.A
