/- The functions, compiled: by program (wip/gencode.py). -/
import Derived.Test.YtkfcfpnkgljdmaaDoorBk
import Derived.Test.YtkfcfpnkgljdmaaDoorProg
import Derived.KernelRfl
namespace Go.A
open Go.Proofs

/-! 24: (tabular/deci.Dec).Text -/
def c24_0 : ACode := .ops [
    ⟨(some 2), none, .q (.mv (.v (.str []))), []⟩]
def c24_1 : ACode := .ops [
    ⟨(some 6), none, .q (.mv (.t 0)), []⟩,
    ⟨(some 7), none, .e (.call 39 [(.t 6)]), []⟩,
    ⟨(some 3), none, .q (.mv (.t 7)), []⟩]
def c24_2 : ACode := .ops [
    ⟨(some 8), none, .q (.mv (.t 3)), []⟩,
    ⟨(some 9), none, .q (.bin .quo (.t 8) (.v (.int .u64 10000))), []⟩,
    ⟨(some 10), none, .e (.call 40 [(.t 9), (.v (.int .i64 10))]), []⟩,
    ⟨(some 4), none, .q (.mv (.t 10)), []⟩]
def c24_3 : ACode := .ops [
    ⟨(some 11), none, .q (.mv (.t 3)), []⟩,
    ⟨(some 12), none, .q (.bin .rem (.t 11) (.v (.int .u64 10000))), []⟩,
    ⟨(some 5), none, .q (.mv (.t 12)), []⟩]
def c24_4 : ACode := .ops [
    ⟨(some 13), none, .q (.mv (.t 5)), []⟩,
    ⟨(some 14), none, .q (.bin .gtr (.t 13) (.v (.int .u64 0))), []⟩]
def c24_5 : ACode := .ops [
    ⟨(some 15), none, .q (.mv (.t 4)), []⟩,
    ⟨(some 16), none, .q (.mv (.t 5)), []⟩,
    ⟨(some 17), none, .q (.bin .add (.v (.int .u64 10000)) (.t 16)), []⟩,
    ⟨(some 18), none, .e (.call 40 [(.t 17), (.v (.int .i64 10))]), []⟩,
    ⟨(some 19), none, .q (.slfrom (true, 0) (.t 18) (.v (.int .i64 1))), []⟩,
    ⟨(some 20), none, .e (.call 41 [(.t 19), (.v (.str [48]))]), []⟩,
    ⟨(some 21), none, .q (.bin .add (.v (.str [46])) (.t 20)), []⟩,
    ⟨(some 22), none, .q (.bin .add (.t 15) (.t 21)), []⟩,
    ⟨(some 4), none, .q (.mv (.t 22)), []⟩]
def c24_6 : ACode := .cond (.t 14) c24_5 .skip
def c24_7 : ACode := .seq c24_4 c24_6
def c24_8 : ACode := .seq c24_3 c24_7
def c24_9 : ACode := .ops [
    ⟨(some 23), none, .q (.mv (.t 0)), []⟩,
    ⟨(some 24), none, .q (.bin .lss (.t 23) (.v (.int .i64 0))), []⟩]
def c24_10 : ACode := .ops [
    ⟨(some 25), none, .q (.mv (.t 4)), []⟩,
    ⟨(some 26), none, .q (.bin .add (.v (.str [45])) (.t 25)), []⟩,
    ⟨(some 2), none, .q (.mv (.t 26)), []⟩]
def c24_11 : ACode := .seq c24_10 .ret
def c24_12 : ACode := .cond (.t 24) c24_11 .skip
def c24_13 : ACode := .seq c24_9 c24_12
def c24_14 : ACode := .ops [
    ⟨(some 27), none, .q (.mv (.t 4)), []⟩,
    ⟨(some 2), none, .q (.mv (.t 27)), []⟩]
def c24_15 : ACode := .seq c24_14 .ret
def c24_16 : ACode := .seq c24_13 c24_15
def c24_17 : ACode := .seq c24_8 c24_16
def c24_18 : ACode := .seq c24_2 c24_17
def c24_19 : ACode := .seq c24_1 c24_18
def c24_20 : ACode := .seq c24_0 c24_19
@[go_sem] theorem c24_0_wp : type_of% (wp_of c24_0.eq_1) := wp_of c24_0.eq_1
@[go_sem] theorem c24_1_wp : type_of% (wp_of c24_1.eq_1) := wp_of c24_1.eq_1
@[go_sem] theorem c24_2_wp : type_of% (wp_of c24_2.eq_1) := wp_of c24_2.eq_1
@[go_sem] theorem c24_3_wp : type_of% (wp_of c24_3.eq_1) := wp_of c24_3.eq_1
@[go_sem] theorem c24_4_wp : type_of% (wp_of c24_4.eq_1) := wp_of c24_4.eq_1
@[go_sem] theorem c24_5_wp : type_of% (wp_of c24_5.eq_1) := wp_of c24_5.eq_1
@[go_sem] theorem c24_6_wp : type_of% (wp_of c24_6.eq_1) := wp_of c24_6.eq_1
@[go_sem] theorem c24_7_wp : type_of% (wp_of c24_7.eq_1) := wp_of c24_7.eq_1
@[go_sem] theorem c24_8_wp : type_of% (wp_of c24_8.eq_1) := wp_of c24_8.eq_1
@[go_sem] theorem c24_9_wp : type_of% (wp_of c24_9.eq_1) := wp_of c24_9.eq_1
@[go_sem] theorem c24_10_wp : type_of% (wp_of c24_10.eq_1) := wp_of c24_10.eq_1
@[go_sem] theorem c24_11_wp : type_of% (wp_of c24_11.eq_1) := wp_of c24_11.eq_1
@[go_sem] theorem c24_12_wp : type_of% (wp_of c24_12.eq_1) := wp_of c24_12.eq_1
@[go_sem] theorem c24_13_wp : type_of% (wp_of c24_13.eq_1) := wp_of c24_13.eq_1
@[go_sem] theorem c24_14_wp : type_of% (wp_of c24_14.eq_1) := wp_of c24_14.eq_1
@[go_sem] theorem c24_15_wp : type_of% (wp_of c24_15.eq_1) := wp_of c24_15.eq_1
@[go_sem] theorem c24_16_wp : type_of% (wp_of c24_16.eq_1) := wp_of c24_16.eq_1
@[go_sem] theorem c24_17_wp : type_of% (wp_of c24_17.eq_1) := wp_of c24_17.eq_1
@[go_sem] theorem c24_18_wp : type_of% (wp_of c24_18.eq_1) := wp_of c24_18.eq_1
@[go_sem] theorem c24_19_wp : type_of% (wp_of c24_19.eq_1) := wp_of c24_19.eq_1
@[go_sem] theorem c24_20_wp : type_of% (wp_of c24_20.eq_1) := wp_of c24_20.eq_1
def c24 : AFn := ⟨28, [.t 2], c24_20⟩
set_option maxRecDepth 100000 in
theorem c24_ok : compF Tryd.prog Tryd.f24 = some c24 := by kernel_rfl
theorem a24 {args : List AV} {σ : ASt} {R : AV → ASt → Prop} (hl : args.length ≤ 28) (h : c24_20.wp Tryd.prog (RetQ [.t 2] R) (init args) σ) : ACalls Tryd.prog 24 args σ R := acalls_of Tryd.func24 c24_ok hl h

/-! 35: tabular/tabularlaw01.Cut -/
def c35_0 : ACode := .ops [
    ⟨(some 4), none, .q (.mv (.v (.str []))), []⟩]
def c35_1 : ACode := .ops [
    ⟨(some 5), none, .q (.mv (.t 0)), []⟩,
    ⟨(some 6), none, .q (.lenS (.t 5)), []⟩,
    ⟨(some 7), none, .q (.mv (.t 1)), []⟩,
    ⟨(some 8), none, .q (.bin .gtr (.t 6) (.t 7)), []⟩]
def c35_2 : ACode := .ops [
    ⟨(some 9), none, .q (.mv (.t 0)), []⟩,
    ⟨(some 10), none, .q (.mv (.t 1)), []⟩,
    ⟨(some 11), none, .q (.slto (true, 0) (.t 9) (.t 10)), []⟩,
    ⟨(some 4), none, .q (.mv (.t 11)), []⟩]
def c35_3 : ACode := .seq c35_2 .ret
def c35_4 : ACode := .cond (.t 8) c35_3 .skip
def c35_5 : ACode := .seq c35_1 c35_4
def c35_6 : ACode := .ops [
    ⟨(some 12), none, .q (.mv (.t 0)), []⟩,
    ⟨(some 4), none, .q (.mv (.t 12)), []⟩]
def c35_7 : ACode := .seq c35_6 .ret
def c35_8 : ACode := .seq c35_5 c35_7
def c35_9 : ACode := .seq c35_0 c35_8
@[go_sem] theorem c35_0_wp : type_of% (wp_of c35_0.eq_1) := wp_of c35_0.eq_1
@[go_sem] theorem c35_1_wp : type_of% (wp_of c35_1.eq_1) := wp_of c35_1.eq_1
@[go_sem] theorem c35_2_wp : type_of% (wp_of c35_2.eq_1) := wp_of c35_2.eq_1
@[go_sem] theorem c35_3_wp : type_of% (wp_of c35_3.eq_1) := wp_of c35_3.eq_1
@[go_sem] theorem c35_4_wp : type_of% (wp_of c35_4.eq_1) := wp_of c35_4.eq_1
@[go_sem] theorem c35_5_wp : type_of% (wp_of c35_5.eq_1) := wp_of c35_5.eq_1
@[go_sem] theorem c35_6_wp : type_of% (wp_of c35_6.eq_1) := wp_of c35_6.eq_1
@[go_sem] theorem c35_7_wp : type_of% (wp_of c35_7.eq_1) := wp_of c35_7.eq_1
@[go_sem] theorem c35_8_wp : type_of% (wp_of c35_8.eq_1) := wp_of c35_8.eq_1
@[go_sem] theorem c35_9_wp : type_of% (wp_of c35_9.eq_1) := wp_of c35_9.eq_1
def c35 : AFn := ⟨13, [.t 4], c35_9⟩
set_option maxRecDepth 100000 in
theorem c35_ok : compF Tryd.prog Tryd.f35 = some c35 := by kernel_rfl
theorem a35 {args : List AV} {σ : ASt} {R : AV → ASt → Prop} (hl : args.length ≤ 13) (h : c35_9.wp Tryd.prog (RetQ [.t 4] R) (init args) σ) : ACalls Tryd.prog 35 args σ R := acalls_of Tryd.func35 c35_ok hl h

/-! 39: tabular/deci.size -/
def c39_0 : ACode := .ops [
    ⟨(some 2), none, .q (.mv (.v (.int .u64 0))), []⟩]
def c39_1 : ACode := .ops [
    ⟨(some 3), none, .q (.mv (.t 0)), []⟩,
    ⟨(some 4), none, .q (.bin .lss (.t 3) (.v (.int .i64 0))), []⟩]
def c39_2 : ACode := .ops [
    ⟨(some 5), none, .q (.mv (.t 0)), []⟩,
    ⟨(some 6), none, .q (.un .neg (.t 5)), []⟩,
    ⟨(some 7), none, .q (.conv .u64 (.t 6)), []⟩,
    ⟨(some 2), none, .q (.mv (.t 7)), []⟩]
def c39_3 : ACode := .seq c39_2 .ret
def c39_4 : ACode := .cond (.t 4) c39_3 .skip
def c39_5 : ACode := .seq c39_1 c39_4
def c39_6 : ACode := .ops [
    ⟨(some 8), none, .q (.mv (.t 0)), []⟩,
    ⟨(some 9), none, .q (.conv .u64 (.t 8)), []⟩,
    ⟨(some 2), none, .q (.mv (.t 9)), []⟩]
def c39_7 : ACode := .seq c39_6 .ret
def c39_8 : ACode := .seq c39_5 c39_7
def c39_9 : ACode := .seq c39_0 c39_8
@[go_sem] theorem c39_0_wp : type_of% (wp_of c39_0.eq_1) := wp_of c39_0.eq_1
@[go_sem] theorem c39_1_wp : type_of% (wp_of c39_1.eq_1) := wp_of c39_1.eq_1
@[go_sem] theorem c39_2_wp : type_of% (wp_of c39_2.eq_1) := wp_of c39_2.eq_1
@[go_sem] theorem c39_3_wp : type_of% (wp_of c39_3.eq_1) := wp_of c39_3.eq_1
@[go_sem] theorem c39_4_wp : type_of% (wp_of c39_4.eq_1) := wp_of c39_4.eq_1
@[go_sem] theorem c39_5_wp : type_of% (wp_of c39_5.eq_1) := wp_of c39_5.eq_1
@[go_sem] theorem c39_6_wp : type_of% (wp_of c39_6.eq_1) := wp_of c39_6.eq_1
@[go_sem] theorem c39_7_wp : type_of% (wp_of c39_7.eq_1) := wp_of c39_7.eq_1
@[go_sem] theorem c39_8_wp : type_of% (wp_of c39_8.eq_1) := wp_of c39_8.eq_1
@[go_sem] theorem c39_9_wp : type_of% (wp_of c39_9.eq_1) := wp_of c39_9.eq_1
def c39 : AFn := ⟨10, [.t 2], c39_9⟩
set_option maxRecDepth 100000 in
theorem c39_ok : compF Tryd.prog Tryd.f39 = some c39 := by kernel_rfl
theorem a39 {args : List AV} {σ : ASt} {R : AV → ASt → Prop} (hl : args.length ≤ 10) (h : c39_9.wp Tryd.prog (RetQ [.t 2] R) (init args) σ) : ACalls Tryd.prog 39 args σ R := acalls_of Tryd.func39 c39_ok hl h

/-! 40: strconv.FormatUint -/
def c40_0 : ACode := .ops [
    ⟨(some 4), none, .q (.mv (.v (.str []))), []⟩]
def c40_1 : ACode := .ops [
    ⟨(some 5), none, .q (.mv (.t 0)), []⟩,
    ⟨(some 6), none, .q (.mv (.t 1)), []⟩,
    ⟨(some 7), none, .e (.call 52 [(.t 5), (.t 6)]), []⟩,
    ⟨(some 4), none, .q (.mv (.t 7)), []⟩]
def c40_2 : ACode := .seq c40_1 .ret
def c40_3 : ACode := .seq c40_0 c40_2
@[go_sem] theorem c40_0_wp : type_of% (wp_of c40_0.eq_1) := wp_of c40_0.eq_1
@[go_sem] theorem c40_1_wp : type_of% (wp_of c40_1.eq_1) := wp_of c40_1.eq_1
@[go_sem] theorem c40_2_wp : type_of% (wp_of c40_2.eq_1) := wp_of c40_2.eq_1
@[go_sem] theorem c40_3_wp : type_of% (wp_of c40_3.eq_1) := wp_of c40_3.eq_1
def c40 : AFn := ⟨8, [.t 4], c40_3⟩
set_option maxRecDepth 100000 in
theorem c40_ok : compF Tryd.prog Tryd.f40 = some c40 := by kernel_rfl
theorem a40 {args : List AV} {σ : ASt} {R : AV → ASt → Prop} (hl : args.length ≤ 8) (h : c40_3.wp Tryd.prog (RetQ [.t 4] R) (init args) σ) : ACalls Tryd.prog 40 args σ R := acalls_of Tryd.func40 c40_ok hl h

/-! 43: (tabular/deci.Dec).Whole -/
def c43_0 : ACode := .ops [
    ⟨(some 2), none, .q (.mv (.v (.int .i64 0))), []⟩]
def c43_1 : ACode := .ops [
    ⟨(some 3), none, .q (.mv (.t 0)), []⟩,
    ⟨(some 4), none, .q (.bin .quo (.t 3) (.v (.int .i64 10000))), []⟩,
    ⟨(some 2), none, .q (.mv (.t 4)), []⟩]
def c43_2 : ACode := .seq c43_1 .ret
def c43_3 : ACode := .seq c43_0 c43_2
@[go_sem] theorem c43_0_wp : type_of% (wp_of c43_0.eq_1) := wp_of c43_0.eq_1
@[go_sem] theorem c43_1_wp : type_of% (wp_of c43_1.eq_1) := wp_of c43_1.eq_1
@[go_sem] theorem c43_2_wp : type_of% (wp_of c43_2.eq_1) := wp_of c43_2.eq_1
@[go_sem] theorem c43_3_wp : type_of% (wp_of c43_3.eq_1) := wp_of c43_3.eq_1
def c43 : AFn := ⟨5, [.t 2], c43_3⟩
set_option maxRecDepth 100000 in
theorem c43_ok : compF Tryd.prog Tryd.f43 = some c43 := by kernel_rfl
theorem a43 {args : List AV} {σ : ASt} {R : AV → ASt → Prop} (hl : args.length ≤ 5) (h : c43_3.wp Tryd.prog (RetQ [.t 2] R) (init args) σ) : ACalls Tryd.prog 43 args σ R := acalls_of Tryd.func43 c43_ok hl h

end Go.A
