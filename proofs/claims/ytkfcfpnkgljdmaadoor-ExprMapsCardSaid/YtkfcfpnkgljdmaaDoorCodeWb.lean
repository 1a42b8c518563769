/- The functions, compiled: by program (wip/gencode.py). -/
import Derived.Test.YtkfcfpnkgljdmaaDoorBk
import Derived.Test.YtkfcfpnkgljdmaaDoorProg
import Derived.KernelRfl
namespace Go.A
open Go.Proofs

/-! 28: (tabular/addr.Ref).Text -/
def c28_0 : ACode := .ops [
    ⟨(some 1), none, .e (.box (.t 0)), []⟩,
    ⟨(some 2), none, .q (.mv (.v (.str []))), []⟩]
def c28_1 : ACode := .ops [
    ⟨(some 3), none, .q (.fa 3 (.t 1)), []⟩,
    ⟨(some 4), none, .q (.ld none (.t 3)), []⟩,
    ⟨(some 6), none, .q (.fa 1 (.t 1)), []⟩,
    ⟨(some 7), none, .q (.ld none (.t 6)), []⟩,
    ⟨(some 10), none, .q (.fa 2 (.t 1)), []⟩,
    ⟨(some 11), none, .q (.ld none (.t 10)), []⟩,
    ⟨(some 14), none, .q (.fa 0 (.t 1)), []⟩,
    ⟨(some 15), none, .q (.ld none (.t 14)), []⟩,
    ⟨(some 16), none, .q (.bin .add (.t 15) (.v (.int .i64 1))), []⟩,
    ⟨(some 5), none, .e (.call 45 [(.t 4)]), [⟨none, .ld none (.t 6), 7⟩, ⟨none, .ld none (.t 10), 11⟩, ⟨none, .ld none (.t 14), 15⟩]⟩,
    ⟨(some 8), none, .e (.call 46 [(.t 7)]), [⟨none, .ld none (.t 10), 11⟩, ⟨none, .ld none (.t 14), 15⟩]⟩,
    ⟨(some 9), none, .q (.bin .add (.t 5) (.t 8)), []⟩,
    ⟨(some 12), none, .e (.call 45 [(.t 11)]), [⟨none, .ld none (.t 14), 15⟩]⟩,
    ⟨(some 13), none, .q (.bin .add (.t 9) (.t 12)), []⟩,
    ⟨(some 17), none, .e (.call 47 [(.t 16)]), []⟩,
    ⟨(some 18), none, .q (.bin .add (.t 13) (.t 17)), []⟩,
    ⟨(some 2), none, .q (.mv (.t 18)), []⟩]
def c28_2 : ACode := .seq c28_1 .ret
def c28_3 : ACode := .seq c28_0 c28_2
@[go_sem] theorem c28_0_wp : type_of% (wp_of c28_0.eq_1) := wp_of c28_0.eq_1
@[go_sem] theorem c28_1_wp : type_of% (wp_of c28_1.eq_1) := wp_of c28_1.eq_1
@[go_sem] theorem c28_2_wp : type_of% (wp_of c28_2.eq_1) := wp_of c28_2.eq_1
@[go_sem] theorem c28_3_wp : type_of% (wp_of c28_3.eq_1) := wp_of c28_3.eq_1
def c28 : AFn := ⟨19, [.t 2], c28_3⟩
set_option maxRecDepth 100000 in
theorem c28_ok : compF Tryd.prog Tryd.f28 = some c28 := by kernel_rfl
theorem a28 {args : List AV} {σ : ASt} {R : AV → ASt → Prop} (hl : args.length ≤ 19) (h : c28_3.wp Tryd.prog (RetQ [.t 2] R) (init args) σ) : ACalls Tryd.prog 28 args σ R := acalls_of Tryd.func28 c28_ok hl h

/-! 29: (tabular/addr.Area).Text -/
def c29_0 : ACode := .ops [
    ⟨(some 1), none, .e (.box (.t 0)), []⟩,
    ⟨(some 2), none, .q (.mv (.v (.str []))), []⟩]
def c29_1 : ACode := .ops [
    ⟨(some 3), none, .q (.fa 0 (.t 1)), []⟩,
    ⟨(some 4), none, .q (.ld (some 4) (.t 3)), []⟩,
    ⟨(some 7), none, .q (.fa 4 (.t 1)), []⟩,
    ⟨(some 8), none, .q (.ld (some 4) (.t 7)), []⟩,
    ⟨(some 5), none, .e (.call 28 [(.t 4)]), [⟨none, .ld (some 4) (.t 7), 8⟩]⟩,
    ⟨(some 6), none, .q (.bin .add (.t 5) (.v (.str [58]))), []⟩,
    ⟨(some 9), none, .e (.call 28 [(.t 8)]), []⟩,
    ⟨(some 10), none, .q (.bin .add (.t 6) (.t 9)), []⟩,
    ⟨(some 2), none, .q (.mv (.t 10)), []⟩]
def c29_2 : ACode := .seq c29_1 .ret
def c29_3 : ACode := .seq c29_0 c29_2
@[go_sem] theorem c29_0_wp : type_of% (wp_of c29_0.eq_1) := wp_of c29_0.eq_1
@[go_sem] theorem c29_1_wp : type_of% (wp_of c29_1.eq_1) := wp_of c29_1.eq_1
@[go_sem] theorem c29_2_wp : type_of% (wp_of c29_2.eq_1) := wp_of c29_2.eq_1
@[go_sem] theorem c29_3_wp : type_of% (wp_of c29_3.eq_1) := wp_of c29_3.eq_1
def c29 : AFn := ⟨11, [.t 2], c29_3⟩
set_option maxRecDepth 100000 in
theorem c29_ok : compF Tryd.prog Tryd.f29 = some c29 := by kernel_rfl
theorem a29 {args : List AV} {σ : ASt} {R : AV → ASt → Prop} (hl : args.length ≤ 11) (h : c29_3.wp Tryd.prog (RetQ [.t 2] R) (init args) σ) : ACalls Tryd.prog 29 args σ R := acalls_of Tryd.func29 c29_ok hl h

/-! 45: tabular/addr.dollar -/
def c45_0 : ACode := .ops [
    ⟨(some 2), none, .q (.mv (.v (.str []))), []⟩]
def c45_1 : ACode := .ops [
    ⟨(some 3), none, .q (.mv (.t 0)), []⟩]
def c45_2 : ACode := .ops [
    ⟨(some 2), none, .q (.mv (.v (.str [36]))), []⟩]
def c45_3 : ACode := .seq c45_2 .ret
def c45_4 : ACode := .cond (.t 3) c45_3 .skip
def c45_5 : ACode := .seq c45_1 c45_4
def c45_6 : ACode := .ops [
    ⟨(some 2), none, .q (.mv (.v (.str []))), []⟩]
def c45_7 : ACode := .seq c45_6 .ret
def c45_8 : ACode := .seq c45_5 c45_7
def c45_9 : ACode := .seq c45_0 c45_8
@[go_sem] theorem c45_0_wp : type_of% (wp_of c45_0.eq_1) := wp_of c45_0.eq_1
@[go_sem] theorem c45_1_wp : type_of% (wp_of c45_1.eq_1) := wp_of c45_1.eq_1
@[go_sem] theorem c45_2_wp : type_of% (wp_of c45_2.eq_1) := wp_of c45_2.eq_1
@[go_sem] theorem c45_3_wp : type_of% (wp_of c45_3.eq_1) := wp_of c45_3.eq_1
@[go_sem] theorem c45_4_wp : type_of% (wp_of c45_4.eq_1) := wp_of c45_4.eq_1
@[go_sem] theorem c45_5_wp : type_of% (wp_of c45_5.eq_1) := wp_of c45_5.eq_1
@[go_sem] theorem c45_6_wp : type_of% (wp_of c45_6.eq_1) := wp_of c45_6.eq_1
@[go_sem] theorem c45_7_wp : type_of% (wp_of c45_7.eq_1) := wp_of c45_7.eq_1
@[go_sem] theorem c45_8_wp : type_of% (wp_of c45_8.eq_1) := wp_of c45_8.eq_1
@[go_sem] theorem c45_9_wp : type_of% (wp_of c45_9.eq_1) := wp_of c45_9.eq_1
def c45 : AFn := ⟨4, [.t 2], c45_9⟩
set_option maxRecDepth 100000 in
theorem c45_ok : compF Tryd.prog Tryd.f45 = some c45 := by kernel_rfl
theorem a45 {args : List AV} {σ : ASt} {R : AV → ASt → Prop} (hl : args.length ≤ 4) (h : c45_9.wp Tryd.prog (RetQ [.t 2] R) (init args) σ) : ACalls Tryd.prog 45 args σ R := acalls_of Tryd.func45 c45_ok hl h

end Go.A
