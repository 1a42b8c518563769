/- The functions, compiled: by program (wip/gencode.py). -/
import Derived.Test.YtkfcfpnkgljdmaaDoorBk
import Derived.Test.YtkfcfpnkgljdmaaDoorProg
import Derived.KernelRfl
namespace Go.A
open Go.Proofs

/-! 30: (*strings.Builder).WriteByte -/
def c30_0 : ACode := .ops [
    ⟨(some 4), none, .q (.mv (.v .nili)), []⟩]
def c30_1 : ACode := .ops [
    ⟨(some 5), none, .q (.mv (.t 0)), []⟩,
    ⟨(some 6), none, .e (.call 38 [(.t 5)]), []⟩]
def c30_2 : ACode := .ops [
    ⟨(some 7), none, .q (.mv (.t 0)), []⟩,
    ⟨(some 8), none, .q (.mv (.t 0)), []⟩,
    ⟨(some 9), none, .q (.nc (.t 8)), []⟩,
    ⟨(some 10), none, .q (.fa 1 (.t 9)), []⟩,
    ⟨(some 11), none, .q (.ld none (.t 10)), []⟩,
    ⟨(some 12), none, .q (.mv (.t 1)), []⟩,
    ⟨(some 13), none, .q (.bsl 1 [(.t 12)]), []⟩,
    ⟨(some 14), none, .e (.app 5 1 1 [(.int .u8 0)] (.t 11) (.t 13)), []⟩,
    ⟨(some 15), none, .q (.nc (.t 7)), []⟩,
    ⟨(some 16), none, .q (.fa 1 (.t 15)), []⟩,
    ⟨none, none, .e (.store 1 (.t 16) (.t 14)), []⟩]
def c30_3 : ACode := .ops [
    ⟨(some 4), none, .q (.mv (.v .nili)), []⟩]
def c30_4 : ACode := .seq c30_3 .ret
def c30_5 : ACode := .seq c30_2 c30_4
def c30_6 : ACode := .seq c30_1 c30_5
def c30_7 : ACode := .seq c30_0 c30_6
@[go_sem] theorem c30_0_wp : type_of% (wp_of c30_0.eq_1) := wp_of c30_0.eq_1
@[go_sem] theorem c30_1_wp : type_of% (wp_of c30_1.eq_1) := wp_of c30_1.eq_1
@[go_sem] theorem c30_2_wp : type_of% (wp_of c30_2.eq_1) := wp_of c30_2.eq_1
@[go_sem] theorem c30_3_wp : type_of% (wp_of c30_3.eq_1) := wp_of c30_3.eq_1
@[go_sem] theorem c30_4_wp : type_of% (wp_of c30_4.eq_1) := wp_of c30_4.eq_1
@[go_sem] theorem c30_5_wp : type_of% (wp_of c30_5.eq_1) := wp_of c30_5.eq_1
@[go_sem] theorem c30_6_wp : type_of% (wp_of c30_6.eq_1) := wp_of c30_6.eq_1
@[go_sem] theorem c30_7_wp : type_of% (wp_of c30_7.eq_1) := wp_of c30_7.eq_1
def c30 : AFn := ⟨17, [.t 4], c30_7⟩
set_option maxRecDepth 100000 in
theorem c30_ok : compF Tryd.prog Tryd.f30 = some c30 := by kernel_rfl
theorem a30 {args : List AV} {σ : ASt} {R : AV → ASt → Prop} (hl : args.length ≤ 17) (h : c30_7.wp Tryd.prog (RetQ [.t 4] R) (init args) σ) : ACalls Tryd.prog 30 args σ R := acalls_of Tryd.func30 c30_ok hl h

end Go.A
