/- The functions, compiled: by program (wip/gencode.py). -/
import Derived.Test.YtmefepbdognkdaaDoorBk
import Derived.Test.YtmefepbdognkdaaDoorProg
import Derived.KernelRfl
namespace Go.A
open Go.Proofs

/-! 5: tabular/tabularlaw16.MathsParts -/
def c5_0 : ACode := .ops [
    ⟨(some 4), none, .q (.mv (.v (.bool false))), []⟩]
def c5_1 : ACode := .ops [
    ⟨(some 9), none, .q (.mv (.t 0)), []⟩,
    ⟨(some 10), none, .e (.call 8 [(.t 9)]), []⟩,
    ⟨(some 11), none, .q (.un .not (.t 10)), []⟩,
    ⟨(some 12), none, .q (.mv (.t 11)), []⟩,
    ⟨(some 13), (some (12, false)), .q (.mv (.t 1)), []⟩,
    ⟨(some 14), (some (12, false)), .e (.call 8 [(.t 13)]), []⟩,
    ⟨(some 15), (some (12, false)), .q (.un .not (.t 14)), []⟩,
    ⟨(some 16), none, .q (.pick (.t 12) (.v (.bool true)) (.t 15)), []⟩,
    ⟨(some 17), none, .q (.mv (.t 16)), []⟩,
    ⟨(some 18), (some (17, false)), .q (.mv (.t 0)), []⟩,
    ⟨(some 19), (some (17, false)), .q (.bin .lss (.t 18) (.v (.int .i64 0))), []⟩,
    ⟨(some 20), none, .q (.pick (.t 17) (.v (.bool true)) (.t 19)), []⟩,
    ⟨(some 21), none, .q (.mv (.t 20)), []⟩,
    ⟨(some 22), (some (21, false)), .q (.mv (.t 1)), []⟩,
    ⟨(some 23), (some (21, false)), .q (.bin .lss (.t 22) (.v (.int .i64 1))), []⟩,
    ⟨(some 24), none, .q (.pick (.t 21) (.v (.bool true)) (.t 23)), []⟩]
def c5_2 : ACode := .ops [
    ⟨(some 25), none, .e (.call 9 []), []⟩,
    ⟨(some 4), none, .q (.mv (.t 25)), []⟩]
def c5_3 : ACode := .seq c5_2 .ret
def c5_4 : ACode := .cond (.t 24) c5_3 .skip
def c5_5 : ACode := .seq c5_1 c5_4
def c5_6 : ACode := .ops [
    ⟨(some 27), none, .q (.mv (.t 0)), []⟩,
    ⟨(some 28), none, .q (.mv (.t 1)), []⟩,
    ⟨(some 29), none, .q (.bsl 1 [(.t 27), (.t 28)]), []⟩,
    ⟨(some 30), none, .e (.call 10 [(.v (.str [81, 85, 79, 84, 73, 69, 78, 84])), (.t 29)]), []⟩,
    ⟨(some 26), none, .q (.mv (.t 30)), []⟩,
    ⟨(some 31), none, .q (.ext 0 (.t 26)), []⟩,
    ⟨(some 32), none, .q (.ext 1 (.t 26)), []⟩,
    ⟨(some 5), none, .q (.mv (.t 31)), []⟩,
    ⟨(some 6), none, .q (.mv (.t 32)), []⟩]
def c5_7 : ACode := .ops [
    ⟨(some 34), none, .q (.mv (.t 0)), []⟩,
    ⟨(some 35), none, .q (.mv (.t 1)), []⟩,
    ⟨(some 36), none, .q (.bsl 1 [(.t 34), (.t 35)]), []⟩,
    ⟨(some 37), none, .e (.call 10 [(.v (.str [77, 79, 68])), (.t 36)]), []⟩,
    ⟨(some 33), none, .q (.mv (.t 37)), []⟩,
    ⟨(some 38), none, .q (.ext 0 (.t 33)), []⟩,
    ⟨(some 39), none, .q (.ext 1 (.t 33)), []⟩,
    ⟨(some 7), none, .q (.mv (.t 38)), []⟩,
    ⟨(some 8), none, .q (.mv (.t 39)), []⟩]
def c5_8 : ACode := .ops [
    ⟨(some 40), none, .q (.mv (.t 6)), []⟩,
    ⟨(some 41), none, .q (.un .not (.t 40)), []⟩]
def c5_9 : ACode := .ops [
    ⟨(some 42), none, .e (.call 9 []), []⟩,
    ⟨(some 43), none, .q (.mv (.t 42)), []⟩,
    ⟨(some 44), (some (43, true)), .q (.mv (.t 0)), []⟩,
    ⟨(some 45), (some (43, true)), .q (.mv (.t 1)), []⟩,
    ⟨(some 46), (some (43, true)), .q (.bin .quo (.t 44) (.t 45)), []⟩,
    ⟨(some 47), (some (43, true)), .q (.bin .gtr (.t 46) (.v (.int .i64 99999999999999))), []⟩,
    ⟨(some 48), none, .q (.pick (.t 43) (.t 47) (.v (.bool false))), []⟩,
    ⟨(some 4), none, .q (.mv (.t 48)), []⟩]
def c5_10 : ACode := .seq c5_9 .ret
def c5_11 : ACode := .cond (.t 41) c5_10 .skip
def c5_12 : ACode := .seq c5_8 c5_11
def c5_13 : ACode := .ops [
    ⟨(some 49), none, .e (.call 9 []), []⟩,
    ⟨(some 50), none, .q (.mv (.t 49)), []⟩,
    ⟨(some 51), (some (50, true)), .q (.mv (.t 8)), []⟩,
    ⟨(some 52), none, .q (.pick (.t 50) (.t 51) (.v (.bool false))), []⟩,
    ⟨(some 53), none, .q (.mv (.t 52)), []⟩,
    ⟨(some 54), (some (53, true)), .q (.mv (.t 7)), []⟩,
    ⟨(some 55), (some (53, true)), .q (.bin .geq (.t 54) (.v (.int .i64 0))), []⟩,
    ⟨(some 56), none, .q (.pick (.t 53) (.t 55) (.v (.bool false))), []⟩,
    ⟨(some 57), none, .q (.mv (.t 56)), []⟩,
    ⟨(some 58), (some (57, true)), .q (.mv (.t 7)), []⟩,
    ⟨(some 59), (some (57, true)), .q (.mv (.t 1)), []⟩,
    ⟨(some 60), (some (57, true)), .q (.bin .lss (.t 58) (.t 59)), []⟩,
    ⟨(some 61), none, .q (.pick (.t 57) (.t 60) (.v (.bool false))), []⟩,
    ⟨(some 62), none, .q (.mv (.t 61)), []⟩,
    ⟨(some 63), (some (62, true)), .q (.mv (.t 5)), []⟩,
    ⟨(some 64), (some (62, true)), .e (.call 13 [(.t 63)]), []⟩,
    ⟨(some 65), (some (62, true)), .q (.mv (.t 1)), []⟩,
    ⟨(some 66), (some (62, true)), .q (.bin .mul (.t 64) (.t 65)), []⟩,
    ⟨(some 67), (some (62, true)), .q (.mv (.t 7)), []⟩,
    ⟨(some 68), (some (62, true)), .q (.bin .add (.t 66) (.t 67)), []⟩,
    ⟨(some 69), (some (62, true)), .q (.mv (.t 0)), []⟩,
    ⟨(some 70), (some (62, true)), .q (.bin .eql (.t 68) (.t 69)), []⟩,
    ⟨(some 71), none, .q (.pick (.t 62) (.t 70) (.v (.bool false))), []⟩,
    ⟨(some 4), none, .q (.mv (.t 71)), []⟩]
def c5_14 : ACode := .seq c5_13 .ret
def c5_15 : ACode := .seq c5_12 c5_14
def c5_16 : ACode := .seq c5_7 c5_15
def c5_17 : ACode := .seq c5_6 c5_16
def c5_18 : ACode := .seq c5_5 c5_17
def c5_19 : ACode := .seq c5_0 c5_18
@[go_sem] theorem c5_0_wp : type_of% (wp_of c5_0.eq_1) := wp_of c5_0.eq_1
@[go_sem] theorem c5_1_wp : type_of% (wp_of c5_1.eq_1) := wp_of c5_1.eq_1
@[go_sem] theorem c5_2_wp : type_of% (wp_of c5_2.eq_1) := wp_of c5_2.eq_1
@[go_sem] theorem c5_3_wp : type_of% (wp_of c5_3.eq_1) := wp_of c5_3.eq_1
@[go_sem] theorem c5_4_wp : type_of% (wp_of c5_4.eq_1) := wp_of c5_4.eq_1
@[go_sem] theorem c5_5_wp : type_of% (wp_of c5_5.eq_1) := wp_of c5_5.eq_1
@[go_sem] theorem c5_6_wp : type_of% (wp_of c5_6.eq_1) := wp_of c5_6.eq_1
@[go_sem] theorem c5_7_wp : type_of% (wp_of c5_7.eq_1) := wp_of c5_7.eq_1
@[go_sem] theorem c5_8_wp : type_of% (wp_of c5_8.eq_1) := wp_of c5_8.eq_1
@[go_sem] theorem c5_9_wp : type_of% (wp_of c5_9.eq_1) := wp_of c5_9.eq_1
@[go_sem] theorem c5_10_wp : type_of% (wp_of c5_10.eq_1) := wp_of c5_10.eq_1
@[go_sem] theorem c5_11_wp : type_of% (wp_of c5_11.eq_1) := wp_of c5_11.eq_1
@[go_sem] theorem c5_12_wp : type_of% (wp_of c5_12.eq_1) := wp_of c5_12.eq_1
@[go_sem] theorem c5_13_wp : type_of% (wp_of c5_13.eq_1) := wp_of c5_13.eq_1
@[go_sem] theorem c5_14_wp : type_of% (wp_of c5_14.eq_1) := wp_of c5_14.eq_1
@[go_sem] theorem c5_15_wp : type_of% (wp_of c5_15.eq_1) := wp_of c5_15.eq_1
@[go_sem] theorem c5_16_wp : type_of% (wp_of c5_16.eq_1) := wp_of c5_16.eq_1
@[go_sem] theorem c5_17_wp : type_of% (wp_of c5_17.eq_1) := wp_of c5_17.eq_1
@[go_sem] theorem c5_18_wp : type_of% (wp_of c5_18.eq_1) := wp_of c5_18.eq_1
@[go_sem] theorem c5_19_wp : type_of% (wp_of c5_19.eq_1) := wp_of c5_19.eq_1
def c5 : AFn := ⟨72, [.t 4], c5_19⟩
set_option maxRecDepth 100000 in
theorem c5_ok : compF Tryd.prog Tryd.f5 = some c5 := by kernel_rfl
theorem a5 {args : List AV} {σ : ASt} {R : AV → ASt → Prop} (hl : args.length ≤ 72) (h : c5_19.wp Tryd.prog (RetQ [.t 4] R) (init args) σ) : ACalls Tryd.prog 5 args σ R := acalls_of Tryd.func5 c5_ok hl h

/-! 9: tabular/tabularlaw16.awake -/
def c9_0 : ACode := .ops [
    ⟨(some 0), none, .q (.mv (.v (.bool false))), []⟩]
def c9_1 : ACode := .ops [
    ⟨(some 3), none, .q (.build [(.int .i64 0), (.int .i64 0), (.str [])] [(0, 1, (.v (.int .i64 1))), (1, 1, (.v (.int .i64 40000)))]), []⟩,
    ⟨(some 4), none, .q (.build [(.int .i64 0), (.int .i64 0), (.str [])] [(0, 1, (.v (.int .i64 2))), (2, 1, (.v (.str [54])))]), []⟩,
    ⟨(some 5), none, .q (.bsl 3 [(.t 3), (.t 4)]), []⟩,
    ⟨(some 6), none, .e (.call 15 [(.t 5)]), []⟩,
    ⟨(some 7), none, .e (.call 20 [(.v (.str [76, 67, 77])), (.t 6)]), []⟩,
    ⟨(some 1), none, .q (.mv (.t 7)), []⟩]
def c9_2 : ACode := .ops [
    ⟨(some 8), none, .q (.build [(.int .i64 0), (.int .i64 0), (.str [])] [(0, 1, (.v (.int .i64 1))), (1, 1, (.v (.int .i64 12100)))]), []⟩,
    ⟨(some 9), none, .q (.build [(.int .i64 0), (.int .i64 0), (.str [])] [(0, 1, (.v (.int .i64 1))), (1, 1, (.v (.int .i64 10000)))]), []⟩,
    ⟨(some 10), none, .q (.bsl 3 [(.t 8), (.t 9)]), []⟩,
    ⟨(some 11), none, .e (.call 15 [(.t 10)]), []⟩,
    ⟨(some 12), none, .e (.call 20 [(.v (.str [82, 79, 85, 78, 68, 85, 80])), (.t 11)]), []⟩,
    ⟨(some 2), none, .q (.mv (.t 12)), []⟩]
def c9_3 : ACode := .ops [
    ⟨(some 13), none, .q (.mv (.t 1)), []⟩,
    ⟨(some 14), none, .e (.call 25 [(.t 13)]), []⟩,
    ⟨(some 15), none, .q (.build [(.int .i64 0), (.int .i64 0), (.str [])] [(0, 1, (.v (.int .i64 1))), (1, 1, (.v (.int .i64 120000)))]), []⟩,
    ⟨(some 16), none, .q (.eqs false [(0, 0), (1, 0), (2, 2)] (.t 14) (.t 15)), []⟩,
    ⟨(some 17), none, .q (.mv (.t 16)), []⟩,
    ⟨(some 18), (some (17, true)), .q (.mv (.t 2)), []⟩,
    ⟨(some 19), (some (17, true)), .e (.call 25 [(.t 18)]), []⟩,
    ⟨(some 20), (some (17, true)), .q (.build [(.int .i64 0), (.int .i64 0), (.str [])] [(0, 1, (.v (.int .i64 1))), (1, 1, (.v (.int .i64 13000)))]), []⟩,
    ⟨(some 21), (some (17, true)), .q (.eqs false [(0, 0), (1, 0), (2, 2)] (.t 19) (.t 20)), []⟩,
    ⟨(some 22), none, .q (.pick (.t 17) (.t 21) (.v (.bool false))), []⟩,
    ⟨(some 0), none, .q (.mv (.t 22)), []⟩]
def c9_4 : ACode := .seq c9_3 .ret
def c9_5 : ACode := .seq c9_2 c9_4
def c9_6 : ACode := .seq c9_1 c9_5
def c9_7 : ACode := .seq c9_0 c9_6
@[go_sem] theorem c9_0_wp : type_of% (wp_of c9_0.eq_1) := wp_of c9_0.eq_1
@[go_sem] theorem c9_1_wp : type_of% (wp_of c9_1.eq_1) := wp_of c9_1.eq_1
@[go_sem] theorem c9_2_wp : type_of% (wp_of c9_2.eq_1) := wp_of c9_2.eq_1
@[go_sem] theorem c9_3_wp : type_of% (wp_of c9_3.eq_1) := wp_of c9_3.eq_1
@[go_sem] theorem c9_4_wp : type_of% (wp_of c9_4.eq_1) := wp_of c9_4.eq_1
@[go_sem] theorem c9_5_wp : type_of% (wp_of c9_5.eq_1) := wp_of c9_5.eq_1
@[go_sem] theorem c9_6_wp : type_of% (wp_of c9_6.eq_1) := wp_of c9_6.eq_1
@[go_sem] theorem c9_7_wp : type_of% (wp_of c9_7.eq_1) := wp_of c9_7.eq_1
def c9 : AFn := ⟨23, [.t 0], c9_7⟩
set_option maxRecDepth 100000 in
theorem c9_ok : compF Tryd.prog Tryd.f9 = some c9 := by kernel_rfl
theorem a9 {args : List AV} {σ : ASt} {R : AV → ASt → Prop} (hl : args.length ≤ 23) (h : c9_7.wp Tryd.prog (RetQ [.t 0] R) (init args) σ) : ACalls Tryd.prog 9 args σ R := acalls_of Tryd.func9 c9_ok hl h

/-! 10: tabular/tabularlaw16.one -/
def c10_0 : ACode := .ops [
    ⟨(some 4), none, .q (.mv (.v (.int .i64 0))), []⟩,
    ⟨(some 5), none, .q (.mv (.v (.bool false))), []⟩]
def c10_1 : ACode := .ops [
    ⟨(some 9), none, .q (.bsl 4 []), []⟩,
    ⟨(some 6), none, .q (.mv (.t 9)), []⟩]
def c10_2 : ACode := .ops [
    ⟨(some 10), none, .q (.mv (.t 1)), []⟩,
    ⟨(some 11), none, .q (.len (.t 10)), []⟩,
    ⟨(some 12), none, .q (.mv (.v (.int .i64 0))), []⟩]
def c10_3 : ACode := .ops [
    ⟨(some 13), none, .q (.bin .lss (.t 12) (.t 11)), []⟩]
def c10_4 : ACode := .cond (.t 13) .skip (.exit 0)
def c10_5 : ACode := .ops [
    ⟨(some 14), none, .q (.ia 1 (.t 10) (.t 12)), []⟩,
    ⟨(some 15), none, .q (.ld none (.t 14)), []⟩,
    ⟨(some 8), none, .q (.mv (.t 15)), []⟩]
def c10_6 : ACode := .ops [
    ⟨(some 16), none, .q (.mv (.t 6)), []⟩,
    ⟨(some 17), none, .q (.mv (.t 8)), []⟩,
    ⟨(some 18), none, .q (.mki 62 (.t 17)), []⟩,
    ⟨(some 19), none, .e (.call 18 [(.t 18)]), []⟩,
    ⟨(some 20), none, .q (.bsl 4 [(.t 19)]), []⟩,
    ⟨(some 21), none, .e (.app 38 4 48 [(.int .i64 0), (.int .i64 0), (.bool false), (.sl .full [])] (.t 16) (.t 20)), []⟩,
    ⟨(some 6), none, .q (.mv (.t 21)), []⟩]
def c10_7 : ACode := .seq c10_5 c10_6
def c10_8 : ACode := .block 1 c10_7
def c10_9 : ACode := .ops [
    ⟨(some 22), none, .q (.bin .add (.t 12) (.v (.int .i64 1))), []⟩,
    ⟨(some 12), none, .q (.mv (.t 22)), []⟩]
def c10_10 : ACode := .seq c10_8 c10_9
def c10_11 : ACode := .seq c10_4 c10_10
def c10_12 : ACode := .seq c10_3 c10_11
def c10_13 : ACode := .loop c10_12
def c10_14 : ACode := .block 0 c10_13
def c10_15 : ACode := .seq c10_2 c10_14
def c10_16 : ACode := .ops [
    ⟨(some 23), none, .q (.mv (.t 0)), []⟩,
    ⟨(some 24), none, .q (.mv (.t 6)), []⟩,
    ⟨(some 25), none, .e (.call 20 [(.t 23), (.t 24)]), []⟩,
    ⟨(some 26), none, .e (.call 26 [(.t 25)]), []⟩,
    ⟨(some 27), none, .q (.ext 0 (.t 26)), []⟩,
    ⟨(some 28), none, .q (.ext 1 (.t 26)), []⟩,
    ⟨(some 4), none, .q (.mv (.t 27)), []⟩,
    ⟨(some 5), none, .q (.mv (.t 28)), []⟩]
def c10_17 : ACode := .seq c10_16 .ret
def c10_18 : ACode := .seq c10_15 c10_17
def c10_19 : ACode := .seq c10_1 c10_18
def c10_20 : ACode := .seq c10_0 c10_19
@[go_sem] theorem c10_0_wp : type_of% (wp_of c10_0.eq_1) := wp_of c10_0.eq_1
@[go_sem] theorem c10_1_wp : type_of% (wp_of c10_1.eq_1) := wp_of c10_1.eq_1
@[go_sem] theorem c10_2_wp : type_of% (wp_of c10_2.eq_1) := wp_of c10_2.eq_1
@[go_sem] theorem c10_3_wp : type_of% (wp_of c10_3.eq_1) := wp_of c10_3.eq_1
@[go_sem] theorem c10_4_wp : type_of% (wp_of c10_4.eq_1) := wp_of c10_4.eq_1
@[go_sem] theorem c10_5_wp : type_of% (wp_of c10_5.eq_1) := wp_of c10_5.eq_1
@[go_sem] theorem c10_6_wp : type_of% (wp_of c10_6.eq_1) := wp_of c10_6.eq_1
@[go_sem] theorem c10_7_wp : type_of% (wp_of c10_7.eq_1) := wp_of c10_7.eq_1
@[go_sem] theorem c10_8_wp : type_of% (wp_of c10_8.eq_1) := wp_of c10_8.eq_1
@[go_sem] theorem c10_9_wp : type_of% (wp_of c10_9.eq_1) := wp_of c10_9.eq_1
@[go_sem] theorem c10_10_wp : type_of% (wp_of c10_10.eq_1) := wp_of c10_10.eq_1
@[go_sem] theorem c10_11_wp : type_of% (wp_of c10_11.eq_1) := wp_of c10_11.eq_1
@[go_sem] theorem c10_12_wp : type_of% (wp_of c10_12.eq_1) := wp_of c10_12.eq_1
@[go_sem] theorem c10_13_wp : type_of% (wp_of c10_13.eq_1) := wp_of c10_13.eq_1
@[go_sem] theorem c10_14_wp : type_of% (wp_of c10_14.eq_1) := wp_of c10_14.eq_1
@[go_sem] theorem c10_15_wp : type_of% (wp_of c10_15.eq_1) := wp_of c10_15.eq_1
@[go_sem] theorem c10_16_wp : type_of% (wp_of c10_16.eq_1) := wp_of c10_16.eq_1
@[go_sem] theorem c10_17_wp : type_of% (wp_of c10_17.eq_1) := wp_of c10_17.eq_1
@[go_sem] theorem c10_18_wp : type_of% (wp_of c10_18.eq_1) := wp_of c10_18.eq_1
@[go_sem] theorem c10_19_wp : type_of% (wp_of c10_19.eq_1) := wp_of c10_19.eq_1
@[go_sem] theorem c10_20_wp : type_of% (wp_of c10_20.eq_1) := wp_of c10_20.eq_1
def c10 : AFn := ⟨29, [.t 4, .t 5], c10_20⟩
set_option maxRecDepth 100000 in
theorem c10_ok : compF Tryd.prog Tryd.f10 = some c10 := by kernel_rfl
theorem a10 {args : List AV} {σ : ASt} {R : AV → ASt → Prop} (hl : args.length ≤ 29) (h : c10_20.wp Tryd.prog (RetQ [.t 4, .t 5] R) (init args) σ) : ACalls Tryd.prog 10 args σ R := acalls_of Tryd.func10 c10_ok hl h

/-! 15: tabular/tabularlaw16.Args -/
def c15_0 : ACode := .ops [
    ⟨(some 2), none, .q (.mv (.v (.sl .full []))), []⟩]
def c15_1 : ACode := .ops [
    ⟨(some 6), none, .q (.bsl 4 []), []⟩,
    ⟨(some 3), none, .q (.mv (.t 6)), []⟩]
def c15_2 : ACode := .ops [
    ⟨(some 7), none, .q (.mv (.t 0)), []⟩,
    ⟨(some 8), none, .q (.len (.t 7)), []⟩,
    ⟨(some 9), none, .q (.mv (.v (.int .i64 0))), []⟩]
def c15_3 : ACode := .ops [
    ⟨(some 10), none, .q (.bin .lss (.t 9) (.t 8)), []⟩]
def c15_4 : ACode := .cond (.t 10) .skip (.exit 0)
def c15_5 : ACode := .ops [
    ⟨(some 11), none, .q (.ia 3 (.t 7) (.t 9)), []⟩,
    ⟨(some 12), none, .q (.ld (some 3) (.t 11)), []⟩,
    ⟨(some 5), none, .e (.alloc [(.int .i64 0), (.int .i64 0), (.str [])]), []⟩,
    ⟨none, none, .e (.store 3 (.t 5) (.t 12)), []⟩]
def c15_6 : ACode := .ops [
    ⟨(some 13), none, .q (.fa 2 (.t 5)), []⟩,
    ⟨(some 14), none, .q (.ld none (.t 13)), []⟩,
    ⟨(some 15), none, .e (.call 27 [(.t 14), (.v (.int .i64 60))]), []⟩,
    ⟨(some 16), none, .q (.fa 2 (.t 5)), []⟩,
    ⟨none, none, .e (.store 1 (.t 16) (.t 15)), []⟩]
def c15_7 : ACode := .ops [
    ⟨(some 17), none, .q (.mv (.t 3)), []⟩,
    ⟨(some 18), none, .q (.ld (some 3) (.t 5)), []⟩,
    ⟨(some 19), none, .e (.call 28 [(.t 18)]), []⟩,
    ⟨(some 20), none, .e (.call 18 [(.t 19)]), []⟩,
    ⟨(some 21), none, .q (.bsl 4 [(.t 20)]), []⟩,
    ⟨(some 22), none, .e (.app 38 4 48 [(.int .i64 0), (.int .i64 0), (.bool false), (.sl .full [])] (.t 17) (.t 21)), []⟩,
    ⟨(some 3), none, .q (.mv (.t 22)), []⟩]
def c15_8 : ACode := .seq c15_6 c15_7
def c15_9 : ACode := .seq c15_5 c15_8
def c15_10 : ACode := .block 1 c15_9
def c15_11 : ACode := .ops [
    ⟨(some 23), none, .q (.bin .add (.t 9) (.v (.int .i64 1))), []⟩,
    ⟨(some 9), none, .q (.mv (.t 23)), []⟩]
def c15_12 : ACode := .seq c15_10 c15_11
def c15_13 : ACode := .seq c15_4 c15_12
def c15_14 : ACode := .seq c15_3 c15_13
def c15_15 : ACode := .loop c15_14
def c15_16 : ACode := .block 0 c15_15
def c15_17 : ACode := .seq c15_2 c15_16
def c15_18 : ACode := .ops [
    ⟨(some 24), none, .q (.mv (.t 3)), []⟩,
    ⟨(some 2), none, .q (.mv (.t 24)), []⟩]
def c15_19 : ACode := .seq c15_18 .ret
def c15_20 : ACode := .seq c15_17 c15_19
def c15_21 : ACode := .seq c15_1 c15_20
def c15_22 : ACode := .seq c15_0 c15_21
@[go_sem] theorem c15_0_wp : type_of% (wp_of c15_0.eq_1) := wp_of c15_0.eq_1
@[go_sem] theorem c15_1_wp : type_of% (wp_of c15_1.eq_1) := wp_of c15_1.eq_1
@[go_sem] theorem c15_2_wp : type_of% (wp_of c15_2.eq_1) := wp_of c15_2.eq_1
@[go_sem] theorem c15_3_wp : type_of% (wp_of c15_3.eq_1) := wp_of c15_3.eq_1
@[go_sem] theorem c15_4_wp : type_of% (wp_of c15_4.eq_1) := wp_of c15_4.eq_1
@[go_sem] theorem c15_5_wp : type_of% (wp_of c15_5.eq_1) := wp_of c15_5.eq_1
@[go_sem] theorem c15_6_wp : type_of% (wp_of c15_6.eq_1) := wp_of c15_6.eq_1
@[go_sem] theorem c15_7_wp : type_of% (wp_of c15_7.eq_1) := wp_of c15_7.eq_1
@[go_sem] theorem c15_8_wp : type_of% (wp_of c15_8.eq_1) := wp_of c15_8.eq_1
@[go_sem] theorem c15_9_wp : type_of% (wp_of c15_9.eq_1) := wp_of c15_9.eq_1
@[go_sem] theorem c15_10_wp : type_of% (wp_of c15_10.eq_1) := wp_of c15_10.eq_1
@[go_sem] theorem c15_11_wp : type_of% (wp_of c15_11.eq_1) := wp_of c15_11.eq_1
@[go_sem] theorem c15_12_wp : type_of% (wp_of c15_12.eq_1) := wp_of c15_12.eq_1
@[go_sem] theorem c15_13_wp : type_of% (wp_of c15_13.eq_1) := wp_of c15_13.eq_1
@[go_sem] theorem c15_14_wp : type_of% (wp_of c15_14.eq_1) := wp_of c15_14.eq_1
@[go_sem] theorem c15_15_wp : type_of% (wp_of c15_15.eq_1) := wp_of c15_15.eq_1
@[go_sem] theorem c15_16_wp : type_of% (wp_of c15_16.eq_1) := wp_of c15_16.eq_1
@[go_sem] theorem c15_17_wp : type_of% (wp_of c15_17.eq_1) := wp_of c15_17.eq_1
@[go_sem] theorem c15_18_wp : type_of% (wp_of c15_18.eq_1) := wp_of c15_18.eq_1
@[go_sem] theorem c15_19_wp : type_of% (wp_of c15_19.eq_1) := wp_of c15_19.eq_1
@[go_sem] theorem c15_20_wp : type_of% (wp_of c15_20.eq_1) := wp_of c15_20.eq_1
@[go_sem] theorem c15_21_wp : type_of% (wp_of c15_21.eq_1) := wp_of c15_21.eq_1
@[go_sem] theorem c15_22_wp : type_of% (wp_of c15_22.eq_1) := wp_of c15_22.eq_1
def c15 : AFn := ⟨25, [.t 2], c15_22⟩
set_option maxRecDepth 100000 in
theorem c15_ok : compF Tryd.prog Tryd.f15 = some c15 := by kernel_rfl
theorem a15 {args : List AV} {σ : ASt} {R : AV → ASt → Prop} (hl : args.length ≤ 25) (h : c15_22.wp Tryd.prog (RetQ [.t 2] R) (init args) σ) : ACalls Tryd.prog 15 args σ R := acalls_of Tryd.func15 c15_ok hl h

end Go.A
