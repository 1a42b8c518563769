/- The functions, compiled: by program (wip/gencode.py). -/
import Derived.Test.YtkfcfpnkgljdmaaDoorBk
import Derived.Test.YtkfcfpnkgljdmaaDoorProg
import Derived.KernelRfl
namespace Go.A
open Go.Proofs

/-! 4: tabular/tabularlaw12.ExprMaps -/
def c4_0 : ACode := .ops [
    ⟨(some 3), none, .e (.box (.t 1)), []⟩,
    ⟨(some 4), none, .q (.mv (.v (.bool false))), []⟩]
def c4_1 : ACode := .ops [
    ⟨(some 9), none, .q (.mv (.t 0)), []⟩,
    ⟨(some 10), none, .e (.call 9 [(.t 9)]), []⟩,
    ⟨(some 5), none, .e (.alloc [(.int .i64 0), (.int .i64 0), (.str []), (.int .i64 0), (.int .i64 0), (.bool false), (.bool false), (.int .i64 0), (.int .i64 0), (.bool false), (.bool false), (.sl .full [])]), []⟩,
    ⟨none, none, .e (.store 12 (.t 5) (.t 10)), []⟩]
def c4_2 : ACode := .ops [
    ⟨(some 11), none, .q (.ld (some 4) (.t 3)), []⟩,
    ⟨(some 12), none, .e (.call 10 [(.t 11)]), []⟩,
    ⟨none, none, .e (.store 4 (.t 3) (.t 12)), []⟩]
def c4_3 : ACode := .ops [
    ⟨(some 13), none, .q (.ld (some 12) (.t 5)), []⟩,
    ⟨(some 14), none, .q (.mkf (.func 12) [] [(.t 3)]), []⟩,
    ⟨(some 15), none, .e (.call 11 [(.t 13), (.t 14)]), []⟩,
    ⟨(some 6), none, .e (.alloc [(.int .i64 0), (.int .i64 0), (.str []), (.int .i64 0), (.int .i64 0), (.bool false), (.bool false), (.int .i64 0), (.int .i64 0), (.bool false), (.bool false), (.sl .full [])]), []⟩,
    ⟨none, none, .e (.store 12 (.t 6) (.t 15)), []⟩]
def c4_4 : ACode := .ops [
    ⟨(some 16), none, .q (.ld (some 12) (.t 5)), []⟩,
    ⟨(some 17), none, .e (.call 11 [(.t 16), (.v (.func (.func 13) [] []))]), []⟩,
    ⟨(some 7), none, .e (.alloc [(.int .i64 0), (.int .i64 0), (.str []), (.int .i64 0), (.int .i64 0), (.bool false), (.bool false), (.int .i64 0), (.int .i64 0), (.bool false), (.bool false), (.sl .full [])]), []⟩,
    ⟨none, none, .e (.store 12 (.t 7) (.t 17)), []⟩]
def c4_5 : ACode := .ops [
    ⟨(some 18), none, .q (.ld (some 12) (.t 6)), []⟩,
    ⟨(some 19), none, .e (.call 14 [(.t 18)]), []⟩,
    ⟨(some 8), none, .q (.mv (.t 19)), []⟩]
def c4_6 : ACode := .ops [
    ⟨(some 20), none, .q (.ld (some 12) (.t 5)), []⟩,
    ⟨(some 21), none, .e (.call 14 [(.t 20)]), []⟩,
    ⟨(some 22), none, .q (.len (.t 21)), []⟩,
    ⟨(some 23), none, .q (.bin .eql (.t 22) (.v (.int .i64 0))), []⟩]
def c4_7 : ACode := .ops [
    ⟨(some 24), none, .e (.call 5 []), []⟩,
    ⟨(some 25), none, .q (.mv (.t 24)), []⟩,
    ⟨(some 26), (some (25, true)), .q (.ld (some 12) (.t 6)), []⟩,
    ⟨(some 27), (some (25, true)), .q (.ld (some 12) (.t 5)), []⟩,
    ⟨(some 28), (some (25, true)), .e (.call 15 [(.t 26), (.t 27)]), []⟩,
    ⟨(some 29), none, .q (.pick (.t 25) (.t 28) (.v (.bool false))), []⟩,
    ⟨(some 30), none, .q (.mv (.t 29)), []⟩,
    ⟨(some 31), (some (30, true)), .q (.mv (.t 8)), []⟩,
    ⟨(some 32), (some (30, true)), .q (.len (.t 31)), []⟩,
    ⟨(some 33), (some (30, true)), .q (.bin .eql (.t 32) (.v (.int .i64 0))), []⟩,
    ⟨(some 34), none, .q (.pick (.t 30) (.t 33) (.v (.bool false))), []⟩,
    ⟨(some 4), none, .q (.mv (.t 34)), []⟩]
def c4_8 : ACode := .seq c4_7 .ret
def c4_9 : ACode := .cond (.t 23) c4_8 .skip
def c4_10 : ACode := .seq c4_6 c4_9
def c4_11 : ACode := .ops [
    ⟨(some 35), none, .e (.call 5 []), []⟩,
    ⟨(some 36), none, .q (.mv (.t 35)), []⟩,
    ⟨(some 37), (some (36, true)), .q (.ld (some 12) (.t 7)), []⟩,
    ⟨(some 38), (some (36, true)), .q (.ld (some 12) (.t 5)), []⟩,
    ⟨(some 39), (some (36, true)), .e (.call 15 [(.t 37), (.t 38)]), []⟩,
    ⟨(some 40), none, .q (.pick (.t 36) (.t 39) (.v (.bool false))), []⟩,
    ⟨(some 41), none, .q (.mv (.t 40)), []⟩,
    ⟨(some 42), (some (41, true)), .q (.mv (.t 8)), []⟩,
    ⟨(some 43), (some (41, true)), .q (.len (.t 42)), []⟩,
    ⟨(some 44), (some (41, true)), .q (.bin .eql (.t 43) (.v (.int .i64 1))), []⟩,
    ⟨(some 45), none, .q (.pick (.t 41) (.t 44) (.v (.bool false))), []⟩,
    ⟨(some 46), none, .q (.mv (.t 45)), []⟩,
    ⟨(some 47), (some (46, true)), .q (.mv (.t 8)), []⟩,
    ⟨(some 48), (some (46, true)), .q (.ia 4 (.t 47) (.v (.int .i64 0))), []⟩,
    ⟨(some 49), (some (46, true)), .q (.ld (some 4) (.t 48)), []⟩,
    ⟨(some 50), (some (46, true)), .q (.ld (some 4) (.t 3)), []⟩,
    ⟨(some 51), (some (46, true)), .e (.call 16 [(.t 50)]), [⟨(some (46, true)), .ld (some 4) (.t 48), 49⟩]⟩,
    ⟨(some 52), (some (46, true)), .q (.eqs false [(0, 0), (1, 0), (2, 0), (3, 0)] (.t 49) (.t 51)), []⟩,
    ⟨(some 53), none, .q (.pick (.t 46) (.t 52) (.v (.bool false))), []⟩,
    ⟨(some 54), none, .q (.mv (.t 53)), []⟩,
    ⟨(some 55), (some (54, true)), .q (.ld (some 12) (.t 6)), []⟩,
    ⟨(some 57), (some (54, true)), .q (.ld (some 12) (.t 5)), []⟩,
    ⟨(some 56), (some (54, true)), .e (.call 17 [(.t 55)]), [⟨(some (54, true)), .ld (some 12) (.t 5), 57⟩]⟩,
    ⟨(some 58), (some (54, true)), .e (.call 17 [(.t 57)]), []⟩,
    ⟨(some 59), (some (54, true)), .q (.bin .eql (.t 56) (.t 58)), []⟩,
    ⟨(some 60), none, .q (.pick (.t 54) (.t 59) (.v (.bool false))), []⟩,
    ⟨(some 61), none, .q (.mv (.t 60)), []⟩,
    ⟨(some 62), (some (61, true)), .q (.ld (some 12) (.t 6)), []⟩,
    ⟨(some 64), (some (61, true)), .q (.ld (some 12) (.t 5)), []⟩,
    ⟨(some 63), (some (61, true)), .e (.call 8 [(.t 62)]), [⟨(some (61, true)), .ld (some 12) (.t 5), 64⟩]⟩,
    ⟨(some 65), (some (61, true)), .e (.call 8 [(.t 64)]), []⟩,
    ⟨(some 66), (some (61, true)), .q (.bin .eql (.t 63) (.t 65)), []⟩,
    ⟨(some 67), none, .q (.pick (.t 61) (.t 66) (.v (.bool false))), []⟩,
    ⟨(some 4), none, .q (.mv (.t 67)), []⟩]
def c4_12 : ACode := .seq c4_11 .ret
def c4_13 : ACode := .seq c4_10 c4_12
def c4_14 : ACode := .seq c4_5 c4_13
def c4_15 : ACode := .seq c4_4 c4_14
def c4_16 : ACode := .seq c4_3 c4_15
def c4_17 : ACode := .seq c4_2 c4_16
def c4_18 : ACode := .seq c4_1 c4_17
def c4_19 : ACode := .seq c4_0 c4_18
@[go_sem] theorem c4_0_wp : type_of% (wp_of c4_0.eq_1) := wp_of c4_0.eq_1
@[go_sem] theorem c4_1_wp : type_of% (wp_of c4_1.eq_1) := wp_of c4_1.eq_1
@[go_sem] theorem c4_2_wp : type_of% (wp_of c4_2.eq_1) := wp_of c4_2.eq_1
@[go_sem] theorem c4_3_wp : type_of% (wp_of c4_3.eq_1) := wp_of c4_3.eq_1
@[go_sem] theorem c4_4_wp : type_of% (wp_of c4_4.eq_1) := wp_of c4_4.eq_1
@[go_sem] theorem c4_5_wp : type_of% (wp_of c4_5.eq_1) := wp_of c4_5.eq_1
@[go_sem] theorem c4_6_wp : type_of% (wp_of c4_6.eq_1) := wp_of c4_6.eq_1
@[go_sem] theorem c4_7_wp : type_of% (wp_of c4_7.eq_1) := wp_of c4_7.eq_1
@[go_sem] theorem c4_8_wp : type_of% (wp_of c4_8.eq_1) := wp_of c4_8.eq_1
@[go_sem] theorem c4_9_wp : type_of% (wp_of c4_9.eq_1) := wp_of c4_9.eq_1
@[go_sem] theorem c4_10_wp : type_of% (wp_of c4_10.eq_1) := wp_of c4_10.eq_1
@[go_sem] theorem c4_11_wp : type_of% (wp_of c4_11.eq_1) := wp_of c4_11.eq_1
@[go_sem] theorem c4_12_wp : type_of% (wp_of c4_12.eq_1) := wp_of c4_12.eq_1
@[go_sem] theorem c4_13_wp : type_of% (wp_of c4_13.eq_1) := wp_of c4_13.eq_1
@[go_sem] theorem c4_14_wp : type_of% (wp_of c4_14.eq_1) := wp_of c4_14.eq_1
@[go_sem] theorem c4_15_wp : type_of% (wp_of c4_15.eq_1) := wp_of c4_15.eq_1
@[go_sem] theorem c4_16_wp : type_of% (wp_of c4_16.eq_1) := wp_of c4_16.eq_1
@[go_sem] theorem c4_17_wp : type_of% (wp_of c4_17.eq_1) := wp_of c4_17.eq_1
@[go_sem] theorem c4_18_wp : type_of% (wp_of c4_18.eq_1) := wp_of c4_18.eq_1
@[go_sem] theorem c4_19_wp : type_of% (wp_of c4_19.eq_1) := wp_of c4_19.eq_1
def c4 : AFn := ⟨68, [.t 4], c4_19⟩
set_option maxRecDepth 100000 in
theorem c4_ok : compF Tryd.prog Tryd.f4 = some c4 := by kernel_rfl
theorem a4 {args : List AV} {σ : ASt} {R : AV → ASt → Prop} (hl : args.length ≤ 68) (h : c4_19.wp Tryd.prog (RetQ [.t 4] R) (init args) σ) : ACalls Tryd.prog 4 args σ R := acalls_of Tryd.func4 c4_ok hl h

/-! 9: tabular/tabularlaw12.Grow -/
def c9_0 : ACode := .ops [
    ⟨(some 2), none, .e (.alloc [(.int .i64 0), (.int .i64 0), (.str []), (.int .i64 0), (.int .i64 0), (.bool false), (.bool false), (.int .i64 0), (.int .i64 0), (.bool false), (.bool false), (.sl .full [])]), []⟩]
def c9_1 : ACode := .ops [
    ⟨(some 5), none, .q (.mv (.t 0)), []⟩,
    ⟨(some 6), none, .q (.len (.t 5)), []⟩,
    ⟨(some 7), none, .q (.bin .gtr (.t 6) (.v (.int .i64 40))), []⟩]
def c9_2 : ACode := .ops [
    ⟨(some 8), none, .q (.mv (.t 0)), []⟩,
    ⟨(some 9), none, .q (.slto (false, 11) (.t 8) (.v (.int .i64 40))), []⟩,
    ⟨(some 0), none, .q (.mv (.t 9)), []⟩]
def c9_3 : ACode := .cond (.t 7) c9_2 .skip
def c9_4 : ACode := .seq c9_1 c9_3
def c9_5 : ACode := .ops [
    ⟨(some 11), none, .q (.mv (.t 0)), []⟩,
    ⟨(some 12), none, .e (.call 20 [(.t 11), (.v (.int .i64 0))]), []⟩,
    ⟨(some 10), none, .q (.mv (.t 12)), []⟩,
    ⟨(some 13), none, .q (.ext 0 (.t 10)), []⟩,
    ⟨(some 14), none, .q (.ext 1 (.t 10)), []⟩,
    ⟨(some 3), none, .e (.alloc [(.int .i64 0), (.int .i64 0), (.str []), (.int .i64 0), (.int .i64 0), (.bool false), (.bool false), (.int .i64 0), (.int .i64 0), (.bool false), (.bool false), (.sl .full [])]), []⟩,
    ⟨none, none, .e (.store 12 (.t 3) (.t 13)), []⟩,
    ⟨(some 4), none, .q (.mv (.t 14)), []⟩]
def c9_6 : ACode := .ops [
    ⟨(some 15), none, .q (.ld (some 12) (.t 3)), []⟩,
    ⟨none, none, .e (.store 12 (.t 2) (.t 15)), []⟩]
def c9_7 : ACode := .seq c9_6 .ret
def c9_8 : ACode := .seq c9_5 c9_7
def c9_9 : ACode := .seq c9_4 c9_8
def c9_10 : ACode := .seq c9_0 c9_9
@[go_sem] theorem c9_0_wp : type_of% (wp_of c9_0.eq_1) := wp_of c9_0.eq_1
@[go_sem] theorem c9_1_wp : type_of% (wp_of c9_1.eq_1) := wp_of c9_1.eq_1
@[go_sem] theorem c9_2_wp : type_of% (wp_of c9_2.eq_1) := wp_of c9_2.eq_1
@[go_sem] theorem c9_3_wp : type_of% (wp_of c9_3.eq_1) := wp_of c9_3.eq_1
@[go_sem] theorem c9_4_wp : type_of% (wp_of c9_4.eq_1) := wp_of c9_4.eq_1
@[go_sem] theorem c9_5_wp : type_of% (wp_of c9_5.eq_1) := wp_of c9_5.eq_1
@[go_sem] theorem c9_6_wp : type_of% (wp_of c9_6.eq_1) := wp_of c9_6.eq_1
@[go_sem] theorem c9_7_wp : type_of% (wp_of c9_7.eq_1) := wp_of c9_7.eq_1
@[go_sem] theorem c9_8_wp : type_of% (wp_of c9_8.eq_1) := wp_of c9_8.eq_1
@[go_sem] theorem c9_9_wp : type_of% (wp_of c9_9.eq_1) := wp_of c9_9.eq_1
@[go_sem] theorem c9_10_wp : type_of% (wp_of c9_10.eq_1) := wp_of c9_10.eq_1
def c9 : AFn := ⟨16, [.c 2 (some 12)], c9_10⟩
set_option maxRecDepth 100000 in
theorem c9_ok : compF Tryd.prog Tryd.f9 = some c9 := by kernel_rfl
theorem a9 {args : List AV} {σ : ASt} {R : AV → ASt → Prop} (hl : args.length ≤ 16) (h : c9_10.wp Tryd.prog (RetQ [.c 2 (some 12)] R) (init args) σ) : ACalls Tryd.prog 9 args σ R := acalls_of Tryd.func9 c9_ok hl h

/-! 12: tabular/tabularlaw12.ExprMaps$1 -/
def c12_0 : ACode := .ops [
    ⟨(some 2), none, .e (.box (.t 0)), []⟩,
    ⟨(some 3), none, .e (.alloc [(.int .i64 0), (.int .i64 0), (.str []), (.int .i64 0), (.int .i64 0), (.bool false), (.bool false), (.int .i64 0), (.int .i64 0), (.bool false), (.bool false), (.sl .full [])]), []⟩]
def c12_1 : ACode := .ops [
    ⟨(some 4), none, .q (.ld (some 4) (.t 1)), []⟩,
    ⟨(some 5), none, .q (.build [(.int .i64 0), (.int .i64 0), (.str []), (.int .i64 0), (.int .i64 0), (.bool false), (.bool false), (.int .i64 0), (.int .i64 0), (.bool false), (.bool false), (.sl .full [])] [(0, 1, (.v (.int .i64 5))), (3, 4, (.t 4))]), []⟩,
    ⟨none, none, .e (.store 12 (.t 3) (.t 5)), []⟩]
def c12_2 : ACode := .seq c12_1 .ret
def c12_3 : ACode := .seq c12_0 c12_2
@[go_sem] theorem c12_0_wp : type_of% (wp_of c12_0.eq_1) := wp_of c12_0.eq_1
@[go_sem] theorem c12_1_wp : type_of% (wp_of c12_1.eq_1) := wp_of c12_1.eq_1
@[go_sem] theorem c12_2_wp : type_of% (wp_of c12_2.eq_1) := wp_of c12_2.eq_1
@[go_sem] theorem c12_3_wp : type_of% (wp_of c12_3.eq_1) := wp_of c12_3.eq_1
def c12 : AFn := ⟨6, [.c 3 (some 12)], c12_3⟩
set_option maxRecDepth 100000 in
theorem c12_ok : compF Tryd.prog Tryd.f12 = some c12 := by kernel_rfl
theorem a12 {args : List AV} {σ : ASt} {R : AV → ASt → Prop} (hl : args.length ≤ 6) (h : c12_3.wp Tryd.prog (RetQ [.c 3 (some 12)] R) (init args) σ) : ACalls Tryd.prog 12 args σ R := acalls_of Tryd.func12 c12_ok hl h

/-! 13: tabular/tabularlaw12.ExprMaps$2 -/
def c13_0 : ACode := .ops [
    ⟨(some 1), none, .e (.box (.t 0)), []⟩,
    ⟨(some 2), none, .e (.alloc [(.int .i64 0), (.int .i64 0), (.str []), (.int .i64 0), (.int .i64 0), (.bool false), (.bool false), (.int .i64 0), (.int .i64 0), (.bool false), (.bool false), (.sl .full [])]), []⟩]
def c13_1 : ACode := .ops [
    ⟨(some 3), none, .q (.ld (some 12) (.t 1)), []⟩,
    ⟨none, none, .e (.store 12 (.t 2) (.t 3)), []⟩]
def c13_2 : ACode := .seq c13_1 .ret
def c13_3 : ACode := .seq c13_0 c13_2
@[go_sem] theorem c13_0_wp : type_of% (wp_of c13_0.eq_1) := wp_of c13_0.eq_1
@[go_sem] theorem c13_1_wp : type_of% (wp_of c13_1.eq_1) := wp_of c13_1.eq_1
@[go_sem] theorem c13_2_wp : type_of% (wp_of c13_2.eq_1) := wp_of c13_2.eq_1
@[go_sem] theorem c13_3_wp : type_of% (wp_of c13_3.eq_1) := wp_of c13_3.eq_1
def c13 : AFn := ⟨4, [.c 2 (some 12)], c13_3⟩
set_option maxRecDepth 100000 in
theorem c13_ok : compF Tryd.prog Tryd.f13 = some c13 := by kernel_rfl
theorem a13 {args : List AV} {σ : ASt} {R : AV → ASt → Prop} (hl : args.length ≤ 4) (h : c13_3.wp Tryd.prog (RetQ [.c 2 (some 12)] R) (init args) σ) : ACalls Tryd.prog 13 args σ R := acalls_of Tryd.func13 c13_ok hl h

end Go.A
