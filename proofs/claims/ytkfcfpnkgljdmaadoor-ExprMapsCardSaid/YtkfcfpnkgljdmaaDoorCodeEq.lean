/- The functions, compiled: by program (wip/gencode.py). -/
import Derived.Test.YtkfcfpnkgljdmaaDoorBk
import Derived.Test.YtkfcfpnkgljdmaaDoorProg
import Derived.KernelRfl
namespace Go.A
open Go.Proofs

/-! 25: tabular/token.Quote -/
def c25_0 : ACode := .ops [
    ⟨(some 2), none, .q (.mv (.v (.str []))), []⟩]
def c25_1 : ACode := .ops [
    ⟨(some 3), none, .q (.mv (.t 0)), []⟩,
    ⟨(some 4), none, .e (.call 42 [(.t 3), (.v (.str [34])), (.v (.str [34, 34]))]), []⟩,
    ⟨(some 5), none, .q (.bin .add (.v (.str [34])) (.t 4)), []⟩,
    ⟨(some 6), none, .q (.bin .add (.t 5) (.v (.str [34]))), []⟩,
    ⟨(some 2), none, .q (.mv (.t 6)), []⟩]
def c25_2 : ACode := .seq c25_1 .ret
def c25_3 : ACode := .seq c25_0 c25_2
@[go_sem] theorem c25_0_wp : type_of% (wp_of c25_0.eq_1) := wp_of c25_0.eq_1
@[go_sem] theorem c25_1_wp : type_of% (wp_of c25_1.eq_1) := wp_of c25_1.eq_1
@[go_sem] theorem c25_2_wp : type_of% (wp_of c25_2.eq_1) := wp_of c25_2.eq_1
@[go_sem] theorem c25_3_wp : type_of% (wp_of c25_3.eq_1) := wp_of c25_3.eq_1
def c25 : AFn := ⟨7, [.t 2], c25_3⟩
set_option maxRecDepth 100000 in
theorem c25_ok : compF Tryd.prog Tryd.f25 = some c25 := by kernel_rfl
theorem a25 {args : List AV} {σ : ASt} {R : AV → ASt → Prop} (hl : args.length ≤ 7) (h : c25_3.wp Tryd.prog (RetQ [.t 2] R) (init args) σ) : ACalls Tryd.prog 25 args σ R := acalls_of Tryd.func25 c25_ok hl h

end Go.A
