/- The functions, compiled: by program (wip/gencode.py). -/
import Derived.Test.YtmefepbdognkdaaGreatDoorBk
import Derived.Test.YtmefepbdognkdaaGreatDoorProg
import Derived.KernelRfl
namespace Go.A
open Go.Proofs

/-! 32: (*tabular/vint.Writer).Bytes -/
def c32_0 : ACode := .ops [
    ⟨(some 2), none, .q (.mv (.v (.str []))), []⟩]
def c32_1 : ACode := .ops [
    ⟨(some 3), none, .q (.mv (.t 0)), []⟩,
    ⟨(some 4), none, .q (.nc (.t 3)), []⟩,
    ⟨(some 5), none, .q (.fa 0 (.t 4)), []⟩,
    ⟨(some 6), none, .q (.ld none (.t 5)), []⟩,
    ⟨(some 7), none, .q (.b2s (.t 6)), []⟩,
    ⟨(some 2), none, .q (.mv (.t 7)), []⟩]
def c32_2 : ACode := .seq c32_1 .ret
def c32_3 : ACode := .seq c32_0 c32_2
@[go_sem] theorem c32_0_wp : type_of% (wp_of c32_0.eq_1) := wp_of c32_0.eq_1
@[go_sem] theorem c32_1_wp : type_of% (wp_of c32_1.eq_1) := wp_of c32_1.eq_1
@[go_sem] theorem c32_2_wp : type_of% (wp_of c32_2.eq_1) := wp_of c32_2.eq_1
@[go_sem] theorem c32_3_wp : type_of% (wp_of c32_3.eq_1) := wp_of c32_3.eq_1
def c32 : AFn := ⟨8, [.t 2], c32_3⟩
set_option maxRecDepth 100000 in
theorem c32_ok : compF Tryz.prog Tryz.f32 = some c32 := by kernel_rfl
theorem a32 {args : List AV} {σ : ASt} {R : AV → ASt → Prop} (hl : args.length ≤ 8) (h : c32_3.wp Tryz.prog (RetQ [.t 2] R) (init args) σ) : ACalls Tryz.prog 32 args σ R := acalls_of Tryz.func32 c32_ok hl h

/-! 103: (*tabular/vint.Writer).Uint -/
def c103_0 : ACode := .ops [
    ⟨(some 4), none, .q (.mv (.t 1)), []⟩,
    ⟨(some 5), none, .q (.bin .gtr (.t 4) (.v (.int .u64 127))), []⟩]
def c103_1 : ACode := .cond (.t 5) .skip (.exit 0)
def c103_2 : ACode := .seq c103_0 c103_1
def c103_3 : ACode := .ops [
    ⟨(some 8), none, .q (.mv (.t 0)), []⟩,
    ⟨(some 9), none, .q (.mv (.t 0)), []⟩,
    ⟨(some 10), none, .q (.nc (.t 9)), []⟩,
    ⟨(some 11), none, .q (.fa 0 (.t 10)), []⟩,
    ⟨(some 12), none, .q (.ld none (.t 11)), []⟩,
    ⟨(some 13), none, .q (.mv (.t 1)), []⟩,
    ⟨(some 14), none, .q (.conv .u8 (.t 13)), []⟩,
    ⟨(some 15), none, .q (.bin .or (.t 14) (.v (.int .u8 128))), []⟩,
    ⟨(some 16), none, .q (.bsl 1 [(.t 15)]), []⟩,
    ⟨(some 17), none, .e (.app 5 1 1 [(.int .u8 0)] (.t 12) (.t 16)), []⟩,
    ⟨(some 18), none, .q (.nc (.t 8)), []⟩,
    ⟨(some 19), none, .q (.fa 0 (.t 18)), []⟩,
    ⟨none, none, .e (.store 1 (.t 19) (.t 17)), []⟩]
def c103_4 : ACode := .block 1 c103_3
def c103_5 : ACode := .ops [
    ⟨(some 6), none, .q (.mv (.t 1)), []⟩,
    ⟨(some 7), none, .q (.bin .shr (.t 6) (.v (.int .u64 7))), []⟩,
    ⟨(some 1), none, .q (.mv (.t 7)), []⟩]
def c103_6 : ACode := .seq c103_4 c103_5
def c103_7 : ACode := .seq c103_2 c103_6
def c103_8 : ACode := .loop c103_7
def c103_9 : ACode := .block 0 c103_8
def c103_10 : ACode := .ops [
    ⟨(some 20), none, .q (.mv (.t 0)), []⟩,
    ⟨(some 21), none, .q (.mv (.t 0)), []⟩,
    ⟨(some 22), none, .q (.nc (.t 21)), []⟩,
    ⟨(some 23), none, .q (.fa 0 (.t 22)), []⟩,
    ⟨(some 24), none, .q (.ld none (.t 23)), []⟩,
    ⟨(some 25), none, .q (.mv (.t 1)), []⟩,
    ⟨(some 26), none, .q (.conv .u8 (.t 25)), []⟩,
    ⟨(some 27), none, .q (.bsl 1 [(.t 26)]), []⟩,
    ⟨(some 28), none, .e (.app 5 1 1 [(.int .u8 0)] (.t 24) (.t 27)), []⟩,
    ⟨(some 29), none, .q (.nc (.t 20)), []⟩,
    ⟨(some 30), none, .q (.fa 0 (.t 29)), []⟩,
    ⟨none, none, .e (.store 1 (.t 30) (.t 28)), []⟩]
def c103_11 : ACode := .seq c103_9 c103_10
@[go_sem] theorem c103_0_wp : type_of% (wp_of c103_0.eq_1) := wp_of c103_0.eq_1
@[go_sem] theorem c103_1_wp : type_of% (wp_of c103_1.eq_1) := wp_of c103_1.eq_1
@[go_sem] theorem c103_2_wp : type_of% (wp_of c103_2.eq_1) := wp_of c103_2.eq_1
@[go_sem] theorem c103_3_wp : type_of% (wp_of c103_3.eq_1) := wp_of c103_3.eq_1
@[go_sem] theorem c103_4_wp : type_of% (wp_of c103_4.eq_1) := wp_of c103_4.eq_1
@[go_sem] theorem c103_5_wp : type_of% (wp_of c103_5.eq_1) := wp_of c103_5.eq_1
@[go_sem] theorem c103_6_wp : type_of% (wp_of c103_6.eq_1) := wp_of c103_6.eq_1
@[go_sem] theorem c103_7_wp : type_of% (wp_of c103_7.eq_1) := wp_of c103_7.eq_1
@[go_sem] theorem c103_8_wp : type_of% (wp_of c103_8.eq_1) := wp_of c103_8.eq_1
@[go_sem] theorem c103_9_wp : type_of% (wp_of c103_9.eq_1) := wp_of c103_9.eq_1
@[go_sem] theorem c103_10_wp : type_of% (wp_of c103_10.eq_1) := wp_of c103_10.eq_1
@[go_sem] theorem c103_11_wp : type_of% (wp_of c103_11.eq_1) := wp_of c103_11.eq_1
def c103 : AFn := ⟨31, [], c103_11⟩
set_option maxRecDepth 100000 in
theorem c103_ok : compF Tryz.prog Tryz.f103 = some c103 := by kernel_rfl
theorem a103 {args : List AV} {σ : ASt} {R : AV → ASt → Prop} (hl : args.length ≤ 31) (h : c103_11.wp Tryz.prog (RetQ [] R) (init args) σ) : ACalls Tryz.prog 103 args σ R := acalls_of Tryz.func103 c103_ok hl h

/-! 104: (*tabular/vint.Writer).Int -/
def c104_0 : ACode := .ops [
    ⟨(some 4), none, .q (.mv (.t 0)), []⟩,
    ⟨(some 5), none, .q (.mv (.t 1)), []⟩,
    ⟨(some 6), none, .q (.conv .u64 (.t 5)), []⟩,
    ⟨(some 7), none, .q (.bin .shl (.t 6) (.v (.int .u64 1))), []⟩,
    ⟨(some 8), none, .q (.mv (.t 1)), []⟩,
    ⟨(some 9), none, .q (.bin .shr (.t 8) (.v (.int .u64 63))), []⟩,
    ⟨(some 10), none, .q (.conv .u64 (.t 9)), []⟩,
    ⟨(some 11), none, .q (.bin .xor (.t 7) (.t 10)), []⟩,
    ⟨(some 12), none, .e (.call 103 [(.t 4), (.t 11)]), []⟩]
@[go_sem] theorem c104_0_wp : type_of% (wp_of c104_0.eq_1) := wp_of c104_0.eq_1
def c104 : AFn := ⟨13, [], c104_0⟩
set_option maxRecDepth 100000 in
theorem c104_ok : compF Tryz.prog Tryz.f104 = some c104 := by kernel_rfl
theorem a104 {args : List AV} {σ : ASt} {R : AV → ASt → Prop} (hl : args.length ≤ 13) (h : c104_0.wp Tryz.prog (RetQ [] R) (init args) σ) : ACalls Tryz.prog 104 args σ R := acalls_of Tryz.func104 c104_ok hl h

/-! 105: (*tabular/vint.Writer).Text -/
def c105_0 : ACode := .ops [
    ⟨(some 4), none, .q (.mv (.t 0)), []⟩,
    ⟨(some 5), none, .q (.mv (.t 1)), []⟩,
    ⟨(some 6), none, .q (.lenS (.t 5)), []⟩,
    ⟨(some 7), none, .q (.conv .u64 (.t 6)), []⟩,
    ⟨(some 8), none, .e (.call 103 [(.t 4), (.t 7)]), []⟩]
def c105_1 : ACode := .ops [
    ⟨(some 9), none, .q (.mv (.t 0)), []⟩,
    ⟨(some 10), none, .q (.mv (.t 0)), []⟩,
    ⟨(some 11), none, .q (.nc (.t 10)), []⟩,
    ⟨(some 12), none, .q (.fa 0 (.t 11)), []⟩,
    ⟨(some 13), none, .q (.ld none (.t 12)), []⟩,
    ⟨(some 14), none, .q (.mv (.t 1)), []⟩,
    ⟨(some 15), none, .e (.apps 5 (.t 13) (.t 14)), []⟩,
    ⟨(some 16), none, .q (.nc (.t 9)), []⟩,
    ⟨(some 17), none, .q (.fa 0 (.t 16)), []⟩,
    ⟨none, none, .e (.store 1 (.t 17) (.t 15)), []⟩]
def c105_2 : ACode := .seq c105_0 c105_1
@[go_sem] theorem c105_0_wp : type_of% (wp_of c105_0.eq_1) := wp_of c105_0.eq_1
@[go_sem] theorem c105_1_wp : type_of% (wp_of c105_1.eq_1) := wp_of c105_1.eq_1
@[go_sem] theorem c105_2_wp : type_of% (wp_of c105_2.eq_1) := wp_of c105_2.eq_1
def c105 : AFn := ⟨18, [], c105_2⟩
set_option maxRecDepth 100000 in
theorem c105_ok : compF Tryz.prog Tryz.f105 = some c105 := by kernel_rfl
theorem a105 {args : List AV} {σ : ASt} {R : AV → ASt → Prop} (hl : args.length ≤ 18) (h : c105_2.wp Tryz.prog (RetQ [] R) (init args) σ) : ACalls Tryz.prog 105 args σ R := acalls_of Tryz.func105 c105_ok hl h

end Go.A
