/- The functions, compiled: by program (wip/gencode.py). -/
import Derived.Test.YtpedaofcndaooaaDoorBk
import Derived.Test.YtpedaofcndaooaaDoorProg
import Derived.KernelRfl
namespace Go.A
open Go.Proofs

/-! 3: tabular/tabularlaw01.DeciBack -/
def c3_0 : ACode := .ops [
    ⟨(some 2), none, .q (.mv (.v (.bool false))), []⟩]
def c3_1 : ACode := .ops [
    ⟨(some 5), none, .q (.mv (.t 0)), []⟩,
    ⟨(some 6), none, .e (.call 9 [(.t 5)]), []⟩,
    ⟨(some 7), none, .q (.un .not (.t 6)), []⟩]
def c3_2 : ACode := .ops [
    ⟨(some 8), none, .e (.call 10 []), []⟩,
    ⟨(some 2), none, .q (.mv (.t 8)), []⟩]
def c3_3 : ACode := .seq c3_2 .ret
def c3_4 : ACode := .cond (.t 7) c3_3 .skip
def c3_5 : ACode := .seq c3_1 c3_4
def c3_6 : ACode := .ops [
    ⟨(some 10), none, .q (.mv (.t 0)), []⟩,
    ⟨(some 11), none, .e (.call 12 [(.t 10)]), []⟩,
    ⟨(some 12), none, .e (.call 11 [(.t 11)]), []⟩,
    ⟨(some 9), none, .q (.mv (.t 12)), []⟩,
    ⟨(some 13), none, .q (.ext 0 (.t 9)), []⟩,
    ⟨(some 14), none, .q (.ext 1 (.t 9)), []⟩,
    ⟨(some 3), none, .q (.mv (.t 13)), []⟩,
    ⟨(some 4), none, .q (.mv (.t 14)), []⟩]
def c3_7 : ACode := .ops [
    ⟨(some 15), none, .e (.call 10 []), []⟩,
    ⟨(some 16), none, .q (.mv (.t 15)), []⟩,
    ⟨(some 17), (some (16, true)), .q (.mv (.t 4)), []⟩,
    ⟨(some 18), none, .q (.pick (.t 16) (.t 17) (.v (.bool false))), []⟩,
    ⟨(some 19), none, .q (.mv (.t 18)), []⟩,
    ⟨(some 20), (some (19, true)), .q (.mv (.t 3)), []⟩,
    ⟨(some 21), (some (19, true)), .q (.mv (.t 0)), []⟩,
    ⟨(some 22), (some (19, true)), .q (.bin .eql (.t 20) (.t 21)), []⟩,
    ⟨(some 23), none, .q (.pick (.t 19) (.t 22) (.v (.bool false))), []⟩,
    ⟨(some 2), none, .q (.mv (.t 23)), []⟩]
def c3_8 : ACode := .seq c3_7 .ret
def c3_9 : ACode := .seq c3_6 c3_8
def c3_10 : ACode := .seq c3_5 c3_9
def c3_11 : ACode := .seq c3_0 c3_10
@[go_sem] theorem c3_0_wp (P : Program) (Q : APost) (a : AFr) (σ : ASt) : c3_0.wp P Q a σ = ACode.wp P (.ops [
    ⟨(some 2), none, .q (.mv (.v (.bool false))), []⟩]) Q a σ := id rfl
@[go_sem] theorem c3_1_wp (P : Program) (Q : APost) (a : AFr) (σ : ASt) : c3_1.wp P Q a σ = ACode.wp P (.ops [
    ⟨(some 5), none, .q (.mv (.t 0)), []⟩,
    ⟨(some 6), none, .e (.call 9 [(.t 5)]), []⟩,
    ⟨(some 7), none, .q (.un .not (.t 6)), []⟩]) Q a σ := id rfl
@[go_sem] theorem c3_2_wp (P : Program) (Q : APost) (a : AFr) (σ : ASt) : c3_2.wp P Q a σ = ACode.wp P (.ops [
    ⟨(some 8), none, .e (.call 10 []), []⟩,
    ⟨(some 2), none, .q (.mv (.t 8)), []⟩]) Q a σ := id rfl
@[go_sem] theorem c3_3_wp (P : Program) (Q : APost) (a : AFr) (σ : ASt) : c3_3.wp P Q a σ = ACode.wp P (.seq c3_2 .ret) Q a σ := id rfl
@[go_sem] theorem c3_4_wp (P : Program) (Q : APost) (a : AFr) (σ : ASt) : c3_4.wp P Q a σ = ACode.wp P (.cond (.t 7) c3_3 .skip) Q a σ := id rfl
@[go_sem] theorem c3_5_wp (P : Program) (Q : APost) (a : AFr) (σ : ASt) : c3_5.wp P Q a σ = ACode.wp P (.seq c3_1 c3_4) Q a σ := id rfl
@[go_sem] theorem c3_6_wp (P : Program) (Q : APost) (a : AFr) (σ : ASt) : c3_6.wp P Q a σ = ACode.wp P (.ops [
    ⟨(some 10), none, .q (.mv (.t 0)), []⟩,
    ⟨(some 11), none, .e (.call 12 [(.t 10)]), []⟩,
    ⟨(some 12), none, .e (.call 11 [(.t 11)]), []⟩,
    ⟨(some 9), none, .q (.mv (.t 12)), []⟩,
    ⟨(some 13), none, .q (.ext 0 (.t 9)), []⟩,
    ⟨(some 14), none, .q (.ext 1 (.t 9)), []⟩,
    ⟨(some 3), none, .q (.mv (.t 13)), []⟩,
    ⟨(some 4), none, .q (.mv (.t 14)), []⟩]) Q a σ := id rfl
@[go_sem] theorem c3_7_wp (P : Program) (Q : APost) (a : AFr) (σ : ASt) : c3_7.wp P Q a σ = ACode.wp P (.ops [
    ⟨(some 15), none, .e (.call 10 []), []⟩,
    ⟨(some 16), none, .q (.mv (.t 15)), []⟩,
    ⟨(some 17), (some (16, true)), .q (.mv (.t 4)), []⟩,
    ⟨(some 18), none, .q (.pick (.t 16) (.t 17) (.v (.bool false))), []⟩,
    ⟨(some 19), none, .q (.mv (.t 18)), []⟩,
    ⟨(some 20), (some (19, true)), .q (.mv (.t 3)), []⟩,
    ⟨(some 21), (some (19, true)), .q (.mv (.t 0)), []⟩,
    ⟨(some 22), (some (19, true)), .q (.bin .eql (.t 20) (.t 21)), []⟩,
    ⟨(some 23), none, .q (.pick (.t 19) (.t 22) (.v (.bool false))), []⟩,
    ⟨(some 2), none, .q (.mv (.t 23)), []⟩]) Q a σ := id rfl
@[go_sem] theorem c3_8_wp (P : Program) (Q : APost) (a : AFr) (σ : ASt) : c3_8.wp P Q a σ = ACode.wp P (.seq c3_7 .ret) Q a σ := id rfl
@[go_sem] theorem c3_9_wp (P : Program) (Q : APost) (a : AFr) (σ : ASt) : c3_9.wp P Q a σ = ACode.wp P (.seq c3_6 c3_8) Q a σ := id rfl
@[go_sem] theorem c3_10_wp (P : Program) (Q : APost) (a : AFr) (σ : ASt) : c3_10.wp P Q a σ = ACode.wp P (.seq c3_5 c3_9) Q a σ := id rfl
@[go_sem] theorem c3_11_wp (P : Program) (Q : APost) (a : AFr) (σ : ASt) : c3_11.wp P Q a σ = ACode.wp P (.seq c3_0 c3_10) Q a σ := id rfl
def c3 : AFn := ⟨24, [.t 2], c3_11⟩
set_option maxRecDepth 100000 in
theorem c3_ok : compF Tryd.prog Tryd.f3 = some c3 := by kernel_rfl
theorem a3 {args : List AV} {σ : ASt} {R : AV → ASt → Prop} (hl : args.length ≤ 24) (h : c3_11.wp Tryd.prog (RetQ [.t 2] R) (init args) σ) : ACalls Tryd.prog 3 args σ R := acalls_of Tryd.func3 c3_ok hl h

end Go.A
