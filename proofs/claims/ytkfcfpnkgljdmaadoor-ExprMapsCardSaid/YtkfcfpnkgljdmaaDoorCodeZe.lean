/- The functions, compiled: by program (wip/gencode.py). -/
import Derived.Test.YtkfcfpnkgljdmaaDoorBk
import Derived.Test.YtkfcfpnkgljdmaaDoorProg
import Derived.KernelRfl
namespace Go.A
open Go.Proofs

/-! 44: tabular/token.Errors -/
def c44_0 : ACode := .ops [
    ⟨(some 0), none, .q (.mv (.v (.sl .full []))), []⟩]
def c44_1 : ACode := .ops [
    ⟨(some 1), none, .q (.bsl 1 [(.v (.str [35, 68, 73, 86, 47, 48, 33])), (.v (.str [35, 78, 85, 77, 33])), (.v (.str [35, 86, 65, 76, 85, 69, 33])), (.v (.str [35, 82, 69, 70, 33])), (.v (.str [35, 78, 47, 65])), (.v (.str [35, 78, 65, 77, 69, 63])), (.v (.str [35, 67, 89, 67, 76, 69, 33]))]), []⟩,
    ⟨(some 0), none, .q (.mv (.t 1)), []⟩]
def c44_2 : ACode := .seq c44_1 .ret
def c44_3 : ACode := .seq c44_0 c44_2
@[go_sem] theorem c44_0_wp : type_of% (wp_of c44_0.eq_1) := wp_of c44_0.eq_1
@[go_sem] theorem c44_1_wp : type_of% (wp_of c44_1.eq_1) := wp_of c44_1.eq_1
@[go_sem] theorem c44_2_wp : type_of% (wp_of c44_2.eq_1) := wp_of c44_2.eq_1
@[go_sem] theorem c44_3_wp : type_of% (wp_of c44_3.eq_1) := wp_of c44_3.eq_1
def c44 : AFn := ⟨2, [.t 0], c44_3⟩
set_option maxRecDepth 100000 in
theorem c44_ok : compF Tryd.prog Tryd.f44 = some c44 := by kernel_rfl
theorem a44 {args : List AV} {σ : ASt} {R : AV → ASt → Prop} (hl : args.length ≤ 2) (h : c44_3.wp Tryd.prog (RetQ [.t 0] R) (init args) σ) : ACalls Tryd.prog 44 args σ R := acalls_of Tryd.func44 c44_ok hl h

end Go.A
