/- Part 7 of what ParseTrees leans on: Ec CodeEd Ed CodeEe Ee CodeEh Eh CodeEj. -/
import Derived.Test.YtaonfjelncbhjaaGreatDoorProg
import Derived.KernelRfl
import Derived.Test.YtaonfjelncbhjaaGreatDoorZParseTreesf
set_option linter.defProp false
set_option linter.unusedSimpArgs false
set_option linter.unusedVariables false
set_option maxRecDepth 100000
namespace Go.A
open Go.Proofs Go.Lib
theorem failure_ok (op n : Int) (s : List UInt8) (a b : Ref) (kids : List Nd) (hn : n.natAbs ≤ 999999999999999999) : Pure Tryz.prog 30 [(Nd.mk op n s a b kids).av] (.str (failT op n)) := by
 intro σ
 have hW := whole_ok hn
 have hE := tenames_ok
 obtain ⟨q, hq⟩ : ∃ q, failT op n = q := ⟨_, rfl⟩
 rw [hq]
 unfold failT at hq
 rw [Nd.av_cs]
 generalize n.tdiv 10000 = i at *
 refine a30 (by simp) ?_
 simp (disch := first | assumption | omega) only [go_sem]
 refine boxC_by rfl fun c hc => ?_
 simp (disch := first | assumption | omega) only [go_sem, Nat.reduceEqDiff, ↓reduceIte]
 refine hW.use ?_
 by_cases h4 : op = 4
 ·by_cases h2 : i < 1
  ·rw [if_pos (.inr (.inl h2))] at hq
   subst hq
   simp (disch := first | assumption | omega) only [go_sem, Nat.reduceEqDiff, ↓reduceIte, h4, h2]
   exact retC_by (by repeat' (first | exact Drop.refl _ | with_reducible refine Drop.off ?_ (by assumption))) (.refl _) ⟨rfl, rfl⟩
  ·by_cases h3 : 7 < i
   ·rw [if_pos (.inr (.inr h3))] at hq
    subst hq
    simp (disch := first | assumption | omega) only [go_sem, Nat.reduceEqDiff, ↓reduceIte, h4, h2]
    refine hE.use ?_
    unfold errL
    simp (disch := first | assumption | omega) only [go_sem, Nat.reduceEqDiff, Nat.reduceAdd, ↓reduceIte, h3]
    exact retC_by (by repeat' (first | exact Drop.refl _ | with_reducible refine Drop.off ?_ (by assumption))) (.refl _) ⟨rfl, rfl⟩
   ·rw [if_neg (by omega)] at hq
    have hc : i = 1 ∨ i = 2 ∨ i = 3 ∨ i = 4 ∨ i = 5 ∨ i = 6 ∨ i = 7 := by omega
    subst hq
    rcases hc with rfl | rfl | rfl | rfl | rfl | rfl | rfl
    all_goals
     simp (disch := first | assumption | omega) only [go_sem, Nat.reduceEqDiff, Int.reduceLT, ↓reduceIte, Int.reduceSub, Int.reduceToNat, h4]
     refine hE.use ?_
     unfold errL
     simp (disch := first | assumption | omega) only [go_sem, Nat.reduceEqDiff, Nat.reduceAdd, Int.reduceLT, ↓reduceIte]
     refine hE.use ?_
     unfold errL
     simp (disch := first | assumption | omega) only [go_sem, Nat.reduceEqDiff, ↓reduceIte, Int.reduceSub, Int.reduceToNat]
     exact retC_by (by repeat' (first | exact Drop.refl _ | with_reducible refine Drop.off ?_ (by assumption))) (.refl _) ⟨rfl, rfl⟩
 ·rw [if_pos (.inl h4)] at hq
  subst hq
  simp (disch := first | assumption | omega) only [go_sem, Nat.reduceEqDiff, ↓reduceIte, h4]
  exact retC_by (by repeat' (first | exact Drop.refl _ | with_reducible refine Drop.off ?_ (by assumption))) (.refl _) ⟨rfl, rfl⟩
theorem sizes_len : ∀ l : List Nd, l.length ≤ Nd.sizes l
 | [] => by simp
 | x :: l => by have := x.size_pos; have := sizes_len l; rw [Nd.sizes, List.length_cons]; omega
end Go.A
namespace Go.A
open Go.Proofs
/-! 16: tabular/expr.spell -/
def c16_0 : ACode := .ops [
 ⟨some 3, none, .e (.box (.t 1)), []⟩]
def c16_1 : ACode := .ops [
 ⟨some 7, none, .q (.fa 0 (.t 3)), []⟩,
 ⟨some 8, none, .q (.ld none (.t 7)), []⟩]
def c16_2 : ACode := .ops [
 ⟨some 36, none, .q (.bin .eql (.t 8) (.v (.int .i64 1))), []⟩,
 ⟨some 35, none, .q (.mv (.t 36)), []⟩]
def c16_3 : ACode := .ops [
 ⟨some 37, none, .q (.mv (.t 0)), []⟩,
 ⟨some 38, none, .q (.fa 1 (.t 3)), []⟩,
 ⟨some 39, none, .q (.ld none (.t 38)), []⟩,
 ⟨some 40, none, .e (.call 27 [(.t 39)]), []⟩,
 ⟨some 41, none, .e (.call 26 [(.t 37), (.t 40)]), []⟩]
def c16_4 : ACode := .ops [
 ⟨some 43, none, .q (.bin .eql (.t 8) (.v (.int .i64 2))), []⟩,
 ⟨some 42, none, .q (.mv (.t 43)), []⟩]
def c16_5 : ACode := .ops [
 ⟨some 44, none, .q (.mv (.t 0)), []⟩,
 ⟨some 45, none, .q (.fa 2 (.t 3)), []⟩,
 ⟨some 46, none, .q (.ld none (.t 45)), []⟩,
 ⟨some 47, none, .e (.call 28 [(.t 46)]), []⟩,
 ⟨some 48, none, .e (.call 26 [(.t 44), (.t 47)]), []⟩]
def c16_6 : ACode := .ops [
 ⟨some 50, none, .q (.bin .eql (.t 8) (.v (.int .i64 3))), []⟩,
 ⟨some 49, none, .q (.mv (.t 50)), []⟩]
def c16_7 : ACode := .ops [
 ⟨some 51, none, .q (.mv (.t 0)), []⟩,
 ⟨some 52, none, .q (.fa 1 (.t 3)), []⟩,
 ⟨some 53, none, .q (.ld none (.t 52)), []⟩,
 ⟨some 54, none, .q (.bin .neq (.t 53) (.v (.int .i64 0))), []⟩,
 ⟨some 55, none, .e (.call 29 [(.t 54)]), []⟩,
 ⟨some 56, none, .e (.call 26 [(.t 51), (.t 55)]), []⟩]
def c16_8 : ACode := .ops [
 ⟨some 58, none, .q (.bin .eql (.t 8) (.v (.int .i64 4))), []⟩,
 ⟨some 57, none, .q (.mv (.t 58)), []⟩]
def c16_9 : ACode := .ops [
 ⟨some 59, none, .q (.mv (.t 0)), []⟩,
 ⟨some 60, none, .q (.ld (some 12) (.t 3)), []⟩,
 ⟨some 61, none, .e (.call 30 [(.t 60)]), []⟩,
 ⟨some 62, none, .e (.call 26 [(.t 59), (.t 61)]), []⟩]
def c16_10 : ACode := .ops [
 ⟨some 64, none, .q (.bin .eql (.t 8) (.v (.int .i64 5))), []⟩,
 ⟨some 63, none, .q (.mv (.t 64)), []⟩]
def c16_11 : ACode := .ops [
 ⟨some 65, none, .q (.mv (.t 0)), []⟩,
 ⟨some 66, none, .q (.fa 3 (.t 3)), []⟩,
 ⟨some 67, none, .q (.ld (some 4) (.t 66)), []⟩,
 ⟨some 68, none, .e (.call 31 [(.t 67)]), []⟩,
 ⟨some 69, none, .e (.call 26 [(.t 65), (.t 68)]), []⟩]
def c16_12 : ACode := .ops [
 ⟨some 71, none, .q (.bin .eql (.t 8) (.v (.int .i64 6))), []⟩,
 ⟨some 70, none, .q (.mv (.t 71)), []⟩]
def c16_13 : ACode := .ops [
 ⟨some 72, none, .q (.mv (.t 0)), []⟩,
 ⟨some 73, none, .q (.fa 3 (.t 3)), []⟩,
 ⟨some 74, none, .q (.ld (some 4) (.t 73)), []⟩,
 ⟨some 75, none, .q (.fa 7 (.t 3)), []⟩,
 ⟨some 76, none, .q (.ld (some 4) (.t 75)), []⟩,
 ⟨some 77, none, .q (.build [(.int .i64 0), (.int .i64 0), (.bool false), (.bool false), (.int .i64 0), (.int .i64 0), (.bool false), (.bool false)] [(0, 4, (.t 74)), (4, 4, (.t 76))]), []⟩,
 ⟨some 78, none, .e (.call 32 [(.t 77)]), []⟩,
 ⟨some 79, none, .e (.call 26 [(.t 72), (.t 78)]), []⟩]
def c16_14 : ACode := .ops [
 ⟨some 81, none, .q (.bin .eql (.t 8) (.v (.int .i64 7))), []⟩,
 ⟨some 80, none, .q (.mv (.t 81)), []⟩]
def c16_15 : ACode := .ops [
 ⟨some 82, none, .q (.bin .eql (.t 8) (.v (.int .i64 8))), []⟩,
 ⟨some 80, none, .q (.mv (.t 82)), []⟩]
def c16_16 : ACode := .cond (.t 80) .skip c16_15
def c16_17 : ACode := .seq c16_14 c16_16
def c16_18 : ACode := .ops [
 ⟨some 83, none, .q (.mv (.t 0)), []⟩,
 ⟨some 84, none, .q (.fa 0 (.t 3)), []⟩,
 ⟨some 85, none, .q (.ld none (.t 84)), []⟩,
 ⟨some 86, none, .q (.bin .sub (.t 85) (.v (.int .i64 7))), []⟩,
 ⟨some 87, none, .q (.idx (.v (.str [45, 43])) (.t 86)), []⟩,
 ⟨some 88, none, .e (.call 33 [(.t 83), (.t 87)]), []⟩]
def c16_19 : ACode := .ops [
 ⟨some 89, none, .q (.mv (.t 0)), []⟩,
 ⟨some 90, none, .q (.fa 11 (.t 3)), []⟩,
 ⟨some 91, none, .q (.ld none (.t 90)), []⟩,
 ⟨some 92, none, .q (.ia 12 (.t 91) (.v (.int .i64 0))), []⟩,
 ⟨some 93, none, .q (.ld (some 12) (.t 92)), []⟩,
 ⟨some 94, none, .e (.call 34 [(.t 89), (.t 93), (.v (.int .i64 6))]), []⟩]
def c16_20 : ACode := .seq c16_18 c16_19
def c16_21 : ACode := .ops [
 ⟨some 96, none, .q (.bin .eql (.t 8) (.v (.int .i64 9))), []⟩,
 ⟨some 95, none, .q (.mv (.t 96)), []⟩]
def c16_22 : ACode := .ops [
 ⟨some 97, none, .q (.mv (.t 0)), []⟩,
 ⟨some 98, none, .q (.fa 11 (.t 3)), []⟩,
 ⟨some 99, none, .q (.ld none (.t 98)), []⟩,
 ⟨some 100, none, .q (.ia 12 (.t 99) (.v (.int .i64 0))), []⟩,
 ⟨some 101, none, .q (.ld (some 12) (.t 100)), []⟩,
 ⟨some 102, none, .e (.call 34 [(.t 97), (.t 101), (.v (.int .i64 7))]), []⟩]
def c16_23 : ACode := .ops [
 ⟨some 103, none, .q (.mv (.t 0)), []⟩,
 ⟨some 104, none, .e (.call 33 [(.t 103), (.v (.int .u8 37))]), []⟩]
def c16_24 : ACode := .seq c16_22 c16_23
def c16_25 : ACode := .ops [
 ⟨some 106, none, .q (.bin .eql (.t 8) (.v (.int .i64 22))), []⟩,
 ⟨some 105, none, .q (.mv (.t 106)), []⟩]
def c16_26 : ACode := .ops [
 ⟨some 107, none, .q (.mv (.t 0)), []⟩,
 ⟨some 108, none, .q (.fa 2 (.t 3)), []⟩,
 ⟨some 109, none, .q (.ld none (.t 108)), []⟩,
 ⟨some 110, none, .e (.call 26 [(.t 107), (.t 109)]), []⟩]
def c16_27 : ACode := .ops [
 ⟨some 111, none, .q (.mv (.t 0)), []⟩,
 ⟨some 112, none, .e (.call 33 [(.t 111), (.v (.int .u8 40))]), []⟩]
def c16_28 : ACode := .ops [
 ⟨some 113, none, .q (.fa 11 (.t 3)), []⟩,
 ⟨some 114, none, .q (.ld none (.t 113)), []⟩,
 ⟨some 115, none, .q (.len (.t 114)), []⟩,
 ⟨some 116, none, .q (.mv (.v (.int .i64 0))), []⟩]
def c16_29 : ACode := .ops [
 ⟨some 117, none, .q (.bin .lss (.t 116) (.t 115)), []⟩]
def c16_30 : ACode := .cond (.t 117) .skip (.exit 1)
def c16_31 : ACode := .ops [
 ⟨some 118, none, .q (.mv (.t 116)), []⟩,
 ⟨some 119, none, .q (.ia 12 (.t 114) (.t 116)), []⟩,
 ⟨some 120, none, .q (.ld (some 12) (.t 119)), []⟩,
 ⟨some 5, none, .e (.alloc [(.int .i64 0), (.int .i64 0), (.str []), (.int .i64 0), (.int .i64 0), (.bool false), (.bool false), (.int .i64 0), (.int .i64 0), (.bool false), (.bool false), (.sl .full [])]), []⟩,
 ⟨some 4, none, .q (.mv (.t 118)), []⟩,
 ⟨none, none, .e (.store 12 (.t 5) (.t 120)), []⟩]
def c16_32 : ACode := .ops [
 ⟨some 121, none, .q (.mv (.t 4)), []⟩,
 ⟨some 122, none, .q (.bin .gtr (.t 121) (.v (.int .i64 0))), []⟩]
def c16_33 : ACode := .ops [
 ⟨some 123, none, .q (.mv (.t 0)), []⟩,
 ⟨some 124, none, .e (.call 33 [(.t 123), (.v (.int .u8 44))]), []⟩]
def c16_34 : ACode := .cond (.t 122) c16_33 .skip
def c16_35 : ACode := .seq c16_32 c16_34
def c16_36 : ACode := .ops [
 ⟨some 125, none, .q (.mv (.t 0)), []⟩,
 ⟨some 126, none, .q (.ld (some 12) (.t 5)), []⟩,
 ⟨some 127, none, .e (.call 16 [(.t 125), (.t 126)]), []⟩]
def c16_37 : ACode := .seq c16_35 c16_36
def c16_38 : ACode := .seq c16_31 c16_37
def c16_39 : ACode := .block 2 c16_38
def c16_40 : ACode := .ops [
 ⟨some 128, none, .q (.bin .add (.t 116) (.v (.int .i64 1))), []⟩,
 ⟨some 116, none, .q (.mv (.t 128)), []⟩]
def c16_41 : ACode := .seq c16_39 c16_40
def c16_42 : ACode := .seq c16_30 c16_41
def c16_43 : ACode := .seq c16_29 c16_42
def c16_44 : ACode := .loop c16_43
def c16_45 : ACode := .block 1 c16_44
def c16_46 : ACode := .seq c16_28 c16_45
def c16_47 : ACode := .ops [
 ⟨some 129, none, .q (.mv (.t 0)), []⟩,
 ⟨some 130, none, .e (.call 33 [(.t 129), (.v (.int .u8 41))]), []⟩]
def c16_48 : ACode := .seq c16_46 c16_47
def c16_49 : ACode := .seq c16_27 c16_48
def c16_50 : ACode := .seq c16_26 c16_49
def c16_51 : ACode := .ops [
 ⟨some 132, none, .q (.bin .eql (.t 8) (.v (.int .i64 23))), []⟩,
 ⟨some 131, none, .q (.mv (.t 132)), []⟩]
def c16_52 : ACode := .ops [
 ⟨some 9, none, .q (.fa 0 (.t 3)), []⟩,
 ⟨some 10, none, .q (.ld none (.t 9)), []⟩,
 ⟨some 11, none, .e (.call 35 [(.t 10)]), []⟩,
 ⟨some 6, none, .q (.mv (.t 11)), []⟩]
def c16_53 : ACode := .ops [
 ⟨some 12, none, .q (.mv (.t 0)), []⟩,
 ⟨some 13, none, .q (.fa 11 (.t 3)), []⟩,
 ⟨some 14, none, .q (.ld none (.t 13)), []⟩,
 ⟨some 15, none, .q (.ia 12 (.t 14) (.v (.int .i64 0))), []⟩,
 ⟨some 16, none, .q (.ld (some 12) (.t 15)), []⟩,
 ⟨some 17, none, .q (.mv (.t 6)), []⟩,
 ⟨some 18, none, .e (.call 34 [(.t 12), (.t 16), (.t 17)]), []⟩]
def c16_54 : ACode := .ops [
 ⟨some 19, none, .q (.mv (.t 0)), []⟩,
 ⟨some 21, none, .q (.fa 0 (.t 3)), []⟩,
 ⟨some 22, none, .q (.ld none (.t 21)), []⟩,
 ⟨some 23, none, .q (.bin .sub (.t 22) (.v (.int .i64 10))), []⟩,
 ⟨some 20, none, .e (.call 25 []), [⟨none, .ld none (.t 21), 22⟩]⟩,
 ⟨some 24, none, .q (.ia 1 (.t 20) (.t 23)), []⟩,
 ⟨some 25, none, .q (.ld none (.t 24)), []⟩,
 ⟨some 26, none, .e (.call 26 [(.t 19), (.t 25)]), []⟩]
def c16_55 : ACode := .ops [
 ⟨some 27, none, .q (.mv (.t 0)), []⟩,
 ⟨some 28, none, .q (.fa 11 (.t 3)), []⟩,
 ⟨some 29, none, .q (.ld none (.t 28)), []⟩,
 ⟨some 30, none, .q (.ia 12 (.t 29) (.v (.int .i64 1))), []⟩,
 ⟨some 31, none, .q (.ld (some 12) (.t 30)), []⟩,
 ⟨some 32, none, .q (.mv (.t 6)), []⟩,
 ⟨some 33, none, .q (.bin .add (.t 32) (.v (.int .i64 1))), []⟩,
 ⟨some 34, none, .e (.call 34 [(.t 27), (.t 31), (.t 33)]), []⟩]
def c16_56 : ACode := .seq c16_54 c16_55
def c16_57 : ACode := .seq c16_53 c16_56
def c16_58 : ACode := .seq c16_52 c16_57
def c16_59 : ACode := .cond (.t 131) .skip c16_58
def c16_60 : ACode := .seq c16_51 c16_59
def c16_61 : ACode := .cond (.t 105) c16_50 c16_60
def c16_62 : ACode := .seq c16_25 c16_61
def c16_63 : ACode := .cond (.t 95) c16_24 c16_62
def c16_64 : ACode := .seq c16_21 c16_63
def c16_65 : ACode := .cond (.t 80) c16_20 c16_64
def c16_66 : ACode := .seq c16_17 c16_65
def c16_67 : ACode := .cond (.t 70) c16_13 c16_66
def c16_68 : ACode := .seq c16_12 c16_67
def c16_69 : ACode := .cond (.t 63) c16_11 c16_68
def c16_70 : ACode := .seq c16_10 c16_69
def c16_71 : ACode := .cond (.t 57) c16_9 c16_70
def c16_72 : ACode := .seq c16_8 c16_71
def c16_73 : ACode := .cond (.t 49) c16_7 c16_72
def c16_74 : ACode := .seq c16_6 c16_73
def c16_75 : ACode := .cond (.t 42) c16_5 c16_74
def c16_76 : ACode := .seq c16_4 c16_75
def c16_77 : ACode := .cond (.t 35) c16_3 c16_76
def c16_78 : ACode := .seq c16_2 c16_77
def c16_79 : ACode := .block 0 c16_78
def c16_80 : ACode := .seq c16_1 c16_79
def c16_81 : ACode := .seq c16_0 c16_80
@[go_sem] def c16_0_wp := wp_of c16_0.eq_1
@[go_sem] def c16_1_wp := wp_of c16_1.eq_1
@[go_sem] def c16_2_wp := wp_of c16_2.eq_1
@[go_sem] def c16_3_wp := wp_of c16_3.eq_1
@[go_sem] def c16_4_wp := wp_of c16_4.eq_1
@[go_sem] def c16_5_wp := wp_of c16_5.eq_1
@[go_sem] def c16_6_wp := wp_of c16_6.eq_1
@[go_sem] def c16_7_wp := wp_of c16_7.eq_1
@[go_sem] def c16_8_wp := wp_of c16_8.eq_1
@[go_sem] def c16_9_wp := wp_of c16_9.eq_1
@[go_sem] def c16_10_wp := wp_of c16_10.eq_1
@[go_sem] def c16_11_wp := wp_of c16_11.eq_1
@[go_sem] def c16_12_wp := wp_of c16_12.eq_1
@[go_sem] def c16_13_wp := wp_of c16_13.eq_1
@[go_sem] def c16_14_wp := wp_of c16_14.eq_1
@[go_sem] def c16_15_wp := wp_of c16_15.eq_1
@[go_sem] def c16_16_wp := wp_of c16_16.eq_1
@[go_sem] def c16_17_wp := wp_of c16_17.eq_1
@[go_sem] def c16_18_wp := wp_of c16_18.eq_1
@[go_sem] def c16_19_wp := wp_of c16_19.eq_1
@[go_sem] def c16_20_wp := wp_of c16_20.eq_1
@[go_sem] def c16_21_wp := wp_of c16_21.eq_1
@[go_sem] def c16_22_wp := wp_of c16_22.eq_1
@[go_sem] def c16_23_wp := wp_of c16_23.eq_1
@[go_sem] def c16_24_wp := wp_of c16_24.eq_1
@[go_sem] def c16_25_wp := wp_of c16_25.eq_1
@[go_sem] def c16_26_wp := wp_of c16_26.eq_1
@[go_sem] def c16_27_wp := wp_of c16_27.eq_1
@[go_sem] def c16_28_wp := wp_of c16_28.eq_1
@[go_sem] def c16_29_wp := wp_of c16_29.eq_1
@[go_sem] def c16_30_wp := wp_of c16_30.eq_1
@[go_sem] def c16_31_wp := wp_of c16_31.eq_1
@[go_sem] def c16_32_wp := wp_of c16_32.eq_1
@[go_sem] def c16_33_wp := wp_of c16_33.eq_1
@[go_sem] def c16_34_wp := wp_of c16_34.eq_1
@[go_sem] def c16_35_wp := wp_of c16_35.eq_1
@[go_sem] def c16_36_wp := wp_of c16_36.eq_1
@[go_sem] def c16_37_wp := wp_of c16_37.eq_1
@[go_sem] def c16_38_wp := wp_of c16_38.eq_1
@[go_sem] def c16_39_wp := wp_of c16_39.eq_1
@[go_sem] def c16_40_wp := wp_of c16_40.eq_1
@[go_sem] def c16_41_wp := wp_of c16_41.eq_1
@[go_sem] def c16_42_wp := wp_of c16_42.eq_1
@[go_sem] def c16_43_wp := wp_of c16_43.eq_1
@[go_sem] def c16_44_wp := wp_of c16_44.eq_1
@[go_sem] def c16_45_wp := wp_of c16_45.eq_1
@[go_sem] def c16_46_wp := wp_of c16_46.eq_1
@[go_sem] def c16_47_wp := wp_of c16_47.eq_1
@[go_sem] def c16_48_wp := wp_of c16_48.eq_1
@[go_sem] def c16_49_wp := wp_of c16_49.eq_1
@[go_sem] def c16_50_wp := wp_of c16_50.eq_1
@[go_sem] def c16_51_wp := wp_of c16_51.eq_1
@[go_sem] def c16_52_wp := wp_of c16_52.eq_1
@[go_sem] def c16_53_wp := wp_of c16_53.eq_1
@[go_sem] def c16_54_wp := wp_of c16_54.eq_1
@[go_sem] def c16_55_wp := wp_of c16_55.eq_1
@[go_sem] def c16_56_wp := wp_of c16_56.eq_1
@[go_sem] def c16_57_wp := wp_of c16_57.eq_1
@[go_sem] def c16_58_wp := wp_of c16_58.eq_1
@[go_sem] def c16_59_wp := wp_of c16_59.eq_1
@[go_sem] def c16_60_wp := wp_of c16_60.eq_1
@[go_sem] def c16_61_wp := wp_of c16_61.eq_1
@[go_sem] def c16_62_wp := wp_of c16_62.eq_1
@[go_sem] def c16_63_wp := wp_of c16_63.eq_1
@[go_sem] def c16_64_wp := wp_of c16_64.eq_1
@[go_sem] def c16_65_wp := wp_of c16_65.eq_1
@[go_sem] def c16_66_wp := wp_of c16_66.eq_1
@[go_sem] def c16_67_wp := wp_of c16_67.eq_1
@[go_sem] def c16_68_wp := wp_of c16_68.eq_1
@[go_sem] def c16_69_wp := wp_of c16_69.eq_1
@[go_sem] def c16_70_wp := wp_of c16_70.eq_1
@[go_sem] def c16_71_wp := wp_of c16_71.eq_1
@[go_sem] def c16_72_wp := wp_of c16_72.eq_1
@[go_sem] def c16_73_wp := wp_of c16_73.eq_1
@[go_sem] def c16_74_wp := wp_of c16_74.eq_1
@[go_sem] def c16_75_wp := wp_of c16_75.eq_1
@[go_sem] def c16_76_wp := wp_of c16_76.eq_1
@[go_sem] def c16_77_wp := wp_of c16_77.eq_1
@[go_sem] def c16_78_wp := wp_of c16_78.eq_1
@[go_sem] def c16_79_wp := wp_of c16_79.eq_1
@[go_sem] def c16_80_wp := wp_of c16_80.eq_1
@[go_sem] def c16_81_wp := wp_of c16_81.eq_1
def c16 : AFn := ⟨133, [], c16_81⟩
theorem c16_ok : compF Tryz.prog Tryz.f16 = some c16 := by kernel_rfl
theorem a16 {args : List AV} {σ : ASt} {R : AV → ASt → Prop} (hl : args.length ≤ 133) (h : c16_81.wp Tryz.prog (RetQ [] R) (init args) σ) : ACalls Tryz.prog 16 args σ R := acalls_of Tryz.func16 c16_ok hl h
/-! 34: tabular/expr.inside -/
def c34_0 : ACode := .ops [
 ⟨some 4, none, .e (.box (.t 1)), []⟩]
def c34_1 : ACode := .ops [
 ⟨some 6, none, .q (.fa 0 (.t 4)), []⟩,
 ⟨some 7, none, .q (.ld none (.t 6)), []⟩,
 ⟨some 8, none, .e (.call 35 [(.t 7)]), []⟩,
 ⟨some 9, none, .q (.mv (.t 2)), []⟩,
 ⟨some 10, none, .q (.bin .geq (.t 8) (.t 9)), []⟩]
def c34_2 : ACode := .ops [
 ⟨some 11, none, .q (.mv (.t 0)), []⟩,
 ⟨some 12, none, .q (.ld (some 12) (.t 4)), []⟩,
 ⟨some 13, none, .e (.call 16 [(.t 11), (.t 12)]), []⟩]
def c34_3 : ACode := .seq c34_2 .ret
def c34_4 : ACode := .cond (.t 10) c34_3 .skip
def c34_5 : ACode := .seq c34_1 c34_4
def c34_6 : ACode := .ops [
 ⟨some 14, none, .q (.mv (.t 0)), []⟩,
 ⟨some 15, none, .e (.call 33 [(.t 14), (.v (.int .u8 40))]), []⟩]
def c34_7 : ACode := .ops [
 ⟨some 16, none, .q (.mv (.t 0)), []⟩,
 ⟨some 17, none, .q (.ld (some 12) (.t 4)), []⟩,
 ⟨some 18, none, .e (.call 16 [(.t 16), (.t 17)]), []⟩]
def c34_8 : ACode := .ops [
 ⟨some 19, none, .q (.mv (.t 0)), []⟩,
 ⟨some 20, none, .e (.call 33 [(.t 19), (.v (.int .u8 41))]), []⟩]
def c34_9 : ACode := .seq c34_7 c34_8
def c34_10 : ACode := .seq c34_6 c34_9
def c34_11 : ACode := .seq c34_5 c34_10
def c34_12 : ACode := .seq c34_0 c34_11
@[go_sem] def c34_0_wp := wp_of c34_0.eq_1
@[go_sem] def c34_1_wp := wp_of c34_1.eq_1
@[go_sem] def c34_2_wp := wp_of c34_2.eq_1
@[go_sem] def c34_3_wp := wp_of c34_3.eq_1
@[go_sem] def c34_4_wp := wp_of c34_4.eq_1
@[go_sem] def c34_5_wp := wp_of c34_5.eq_1
@[go_sem] def c34_6_wp := wp_of c34_6.eq_1
@[go_sem] def c34_7_wp := wp_of c34_7.eq_1
@[go_sem] def c34_8_wp := wp_of c34_8.eq_1
@[go_sem] def c34_9_wp := wp_of c34_9.eq_1
@[go_sem] def c34_10_wp := wp_of c34_10.eq_1
@[go_sem] def c34_11_wp := wp_of c34_11.eq_1
@[go_sem] def c34_12_wp := wp_of c34_12.eq_1
def c34 : AFn := ⟨21, [], c34_12⟩
theorem c34_ok : compF Tryz.prog Tryz.f34 = some c34 := by kernel_rfl
theorem a34 {args : List AV} {σ : ASt} {R : AV → ASt → Prop} (hl : args.length ≤ 21) (h : c34_12.wp Tryz.prog (RetQ [] R) (init args) σ) : ACalls Tryz.prog 34 args σ R := acalls_of Tryz.func34 c34_ok hl h
end Go.A
namespace Go.A
open Go.Proofs Go.Lib
theorem BD.tab {σ0 σ : ASt} {b : Nat} {l : List UInt8} (h : BD σ0 b l σ) (hb : σ0 b = none) (hT : Tab σ0) : Tab σ := h.at (by intro e; unfold Tab at hT; rw [e, hb] at hT; cases hT) hT
theorem BD.maxL {σ0 σ : ASt} {b : Nat} {l : List UInt8} (h : BD σ0 b l σ) (hb : σ0 b = none) (hM : MaxL σ0) : MaxL σ := by
 obtain ⟨m, hm⟩ := hM
 exact ⟨m, h.at (by intro e; rw [e, hb] at hm; cases hm) hm⟩
theorem MaxL.set {σ : ASt} {b : Nat} {r : Option Role} (h : MaxL σ) (hb : σ b = none) : MaxL (σ.set b r) := by
 obtain ⟨m, hm⟩ := h
 exact ⟨m, by rw [ASt.set_ne]; exact hm; intro e; rw [e, hb] at hm; cases hm⟩
def SpellOk (n : Nd) : Prop := ∀ (σ0 σ : ASt) (b : Nat) (l : List UInt8), BD σ0 b l σ → σ0 b = none → Tab σ0 → MaxL σ0 → l.length + n.spell.length ≤ 900000000 →
  ACalls Tryz.prog 16 [.ptr b 0, n.av] σ fun v σ' => v = .tuple [] ∧ BD σ0 b (l ++ n.spell) σ'
theorem inside_ok {n : Nd} (hs : SpellOk n) (ho : 1 ≤ n.op ∧ n.op ≤ 23) (least : Int) {σ0 σ : ASt} {b : Nat} {l : List UInt8} (h : BD σ0 b l σ) (hb : σ0 b = none) (hT : Tab σ0) (hM : MaxL σ0) (hl : l.length + (insT least n.op n.spell).length ≤ 900000000) :
  ACalls Tryz.prog 34 [.ptr b 0, n.av, .int .i64 least] σ fun v σ' => v = .tuple [] ∧ BD σ0 b (l ++ insT least n.op n.spell) σ' := by
 have hL := level_ok n.op (by omega) (by omega)
 have hS : ∀ {σ0 σ : ASt} {b : Nat} {l : List UInt8}, BD σ0 b l σ → σ0 b = none → Tab σ0 → MaxL σ0 → l.length + n.spell.length ≤ 900000000 →
  ACalls Tryz.prog 16 [.ptr b 0, n.av] σ fun v σ' => v = .tuple [] ∧ BD σ0 b (l ++ n.spell) σ' := fun {_ _ _ _} => hs _ _ _ _
 clear hs
 obtain ⟨op, m, s, a, d, kids⟩ := n
 rw [Nd.av_cs] at hS ⊢
 generalize (Nd.mk op m s a d kids).spell = t at *
 simp only [Nd.op] at hL hl ho ⊢
 generalize kids.map Nd.av = L at *
 refine a34 (by simp) ?_
 simp (disch := first | assumption | omega) only [go_sem]
 refine boxC_by rfl fun c hc => ?_
 obtain ⟨hB, hcb, hc0⟩ := h.add hc (r := .obj (Nd.cs op m s a d L))
 have hb1 : (σ0.set c (some (.obj (Nd.cs op m s a d L)))) b = none := by rw [ASt.set_ne (Ne.symm hcb)]; exact hb
 have hT1 := hT.set hc0 (r := some (.obj (Nd.cs op m s a d L)))
 have hM1 := hM.set hc0 (r := some (.obj (Nd.cs op m s a d L)))
 have hcell : ∀ {l' : List UInt8} {σ1 : ASt}, BD (σ0.set c (some (.obj (Nd.cs op m s a d L)))) b l' σ1 → σ1 c = some (.obj (Nd.cs op m s a d L)) := fun h => h.at hcb (ASt.set_same _ _ _)
 have hoff : ∀ {l' : List UInt8} {σ1 : ASt}, BD (σ0.set c (some (.obj (Nd.cs op m s a d L)))) b l' σ1 → ∃ σ', Drop σ1 σ' ∧ BD σ0 b l' σ' := fun h => h.off hcb hc0
 have hc1 := hcell hB
 rw [cells_agg]
 generalize σ0.set c (some (.obj (Nd.cs op m s a d L))) = τ at hB hb1 hT1 hM1 hcell hoff
 generalize σ.set c (some (.obj (Nd.cs op m s a d L))) = σ1 at hB hc1 ⊢
 unfold insT at hl ⊢
 by_cases hlv : least ≤ levelP op
 ·rw [if_pos hlv] at hl ⊢
  generalize levelP op = lv at *
  simp (disch := first | assumption | omega) only [go_sem, ↓reduceIte, hc1]
  refine hL.use ?_
  simp (disch := first | assumption | omega) only [go_sem, reduceCtorEq, Nat.reduceEqDiff, Nat.reduceLeDiff, ↓reduceIte, hc1, hlv]
  refine (hS hB hb1 hT1 hM1 hl).mono ?_
  rintro v σ2 ⟨rfl, hB2⟩
  simp (disch := first | assumption | omega) only [go_sem]
  obtain ⟨σ3, hd, hB3⟩ := hoff hB2
  exact retC_by hd (.refl _) ⟨rfl, hB3⟩
 ·rw [if_neg hlv] at hl ⊢
  generalize levelP op = lv at *
  simp only [List.length_append, List.length_cons, List.length_nil] at hl
  simp (disch := first | assumption | omega) only [go_sem, ↓reduceIte, hc1]
  refine hL.use ?_
  simp (disch := first | assumption | omega) only [go_sem, reduceCtorEq, Nat.reduceEqDiff, ↓reduceIte, hlv]
  refine (writeByte_ok hB 40 (by omega)).mono ?_
  rintro v σ2 ⟨rfl, hB2⟩
  have hc2 := hcell hB2
  simp (disch := first | assumption | omega) only [go_sem, reduceCtorEq, Nat.reduceEqDiff, Nat.reduceLeDiff, ↓reduceIte, hc2]
  refine (hS hB2 hb1 hT1 hM1 (by simp only [List.length_append, List.length_cons, List.length_nil]; omega)).mono ?_
  rintro v σ3 ⟨rfl, hB3⟩
  simp (disch := first | assumption | omega) only [go_sem, reduceCtorEq, ↓reduceIte]
  refine (writeByte_ok hB3 41 (by simp only [List.length_append, List.length_cons, List.length_nil]; omega)).mono ?_
  rintro v σ4 ⟨rfl, hB4⟩
  simp (disch := first | assumption | omega) only [go_sem]
  obtain ⟨σ5, hd, hB5⟩ := hoff hB4
  refine retC_by hd (.refl _) ⟨rfl, ?_⟩
  have e : l ++ 40 :: (t ++ [41]) = l ++ [40] ++ t ++ [41] := by simp
  rw [e]; exact hB5
theorem textD_ne (n : Int) : textD n ≠ [] := by
 unfold textD
 have := dd_len_pos (n.natAbs / 10000)
 intro h
 rw [List.append_eq_nil_iff, List.append_eq_nil_iff] at h
 exact this h.2.1
theorem failT_ne {n : Int} (h1 : 1 ≤ n.tdiv 10000) (h2 : n.tdiv 10000 ≤ 7) : failT 4 n ≠ [] := by
 unfold failT
 generalize n.tdiv 10000 = i at *
 rw [if_neg (by omega)]
 have hc : i = 1 ∨ i = 2 ∨ i = 3 ∨ i = 4 ∨ i = 5 ∨ i = 6 ∨ i = 7 := by omega
 rcases hc with rfl | rfl | rfl | rfl | rfl | rfl | rfl <;> decide
theorem truthP_ne (b : Bool) : truthP b ≠ [] := by cases b <;> decide
theorem joinC_snoc : ∀ (L : List (Int × List UInt8)) (p : Int × List UInt8), L ≠ [] → joinC (L ++ [p]) = joinC L ++ 44 :: p.2
 | [], p, h => absurd rfl h
 | q :: r, p, _ => by simp [joinC]
theorem joinC_take_le : ∀ (L : List (Int × List UInt8)) (i : Nat), (joinC (L.take i)).length ≤ (joinC L).length
 | [], i => by simp
 | q :: r, 0 => by simp [joinC]
 | q :: r, i + 1 => by
   rw [List.take_succ_cons]
   simp only [joinC, List.length_append]
   have : ∀ (r : List (Int × List UInt8)) (i : Nat), ((r.take i).flatMap fun q => 44 :: q.2).length ≤ (r.flatMap fun q => 44 :: q.2).length := by
    intro r
    induction r with
    | nil => intro i; simp
    | cons x r ih =>
      intro i
      cases i with
      | zero => simp
      | succ i => rw [List.take_succ_cons, List.flatMap_cons, List.flatMap_cons, List.length_append, List.length_append]; have := ih i; omega
   have := this r i
   omega
theorem textP_ne {r : Ref} (h : r.good = true) : textP r ≠ [] := by
 intro e
 have := (text_len h).1
 rw [e] at this
 simp at this
theorem sign_len (k : Nat) : (signL.getD k []).length ≤ 2 := by
 unfold signL
 rcases k with _|_|_|_|_|_|_|_|_|_|_|_|k <;> simp
set_option maxHeartbeats 2000000 in
theorem spell_ok : ∀ (k : Nat) (n : Nd), n.size ≤ k → n.ok → SpellOk n
 | 0, n, hk, _ => by have := n.size_pos; omega
 | k + 1, n, hk, hn => by
   have ih := spell_ok k
   intro σ0 σ b l h hb hT hM hl
   obtain ⟨op, m, s, a, d, kids⟩ := n
   rw [Nd.size] at hk
   rw [Nd.ok] at hn
   obtain ⟨⟨ho, g1, g2, g4, gc, g5, g6, g7, gb, gk⟩, hks⟩ := hn
   have hkid : ∀ x ∈ kids, SpellOk x ∧ 1 ≤ x.op ∧ x.op ≤ 23 := fun x hx => by
    have h1 := Nd.size_kid hx
    have h2 := Nd.oks_mem.1 hks x hx
    refine ⟨ih x (by omega) h2, ?_⟩
    obtain ⟨o', _, _, _, _, _⟩ := x
    rw [Nd.ok] at h2
    exact h2.1.1
   obtain ⟨w, hw⟩ : ∃ w, (Nd.mk op m s a d kids).spell = w := ⟨_, rfl⟩
   rw [hw] at hl ⊢
   rw [Nd.spell, Nd.spells_map] at hw
   unfold spellK at hw
   rw [Nd.av_cs]
   refine a16 (by simp) ?_
   simp (disch := first | assumption | omega) only [go_sem]
   refine boxC_by rfl fun c hc => ?_
   obtain ⟨hB, hcb, hc0⟩ := h.add hc (r := .obj (Nd.cs op m s a d (kids.map Nd.av)))
   have hb1 : (σ0.set c (some (.obj (Nd.cs op m s a d (kids.map Nd.av))))) b = none := by rw [ASt.set_ne (Ne.symm hcb)]; exact hb
   have hT1 := hT.set hc0 (r := some (.obj (Nd.cs op m s a d (kids.map Nd.av))))
   have hM1 := hM.set hc0 (r := some (.obj (Nd.cs op m s a d (kids.map Nd.av))))
   have hcell : ∀ {l' : List UInt8} {σ1 : ASt}, BD (σ0.set c (some (.obj (Nd.cs op m s a d (kids.map Nd.av))))) b l' σ1 → σ1 c = some (.obj (Nd.cs op m s a d (kids.map Nd.av))) := fun h => h.at hcb (ASt.set_same _ _ _)
   have hoff : ∀ {l' : List UInt8} {σ1 : ASt}, BD (σ0.set c (some (.obj (Nd.cs op m s a d (kids.map Nd.av))))) b l' σ1 → ∃ σ', Drop σ1 σ' ∧ BD σ0 b l' σ' := fun h => h.off hcb hc0
   have hc1 := hcell hB
   rw [cells_agg]
   generalize σ0.set c (some (.obj (Nd.cs op m s a d (kids.map Nd.av)))) = τ at hB hb1 hT1 hM1 hcell hoff
   generalize σ.set c (some (.obj (Nd.cs op m s a d (kids.map Nd.av)))) = σ1 at hB hc1 ⊢
   have hT2 := BD.tab hB hb1 hT1
   have hM2 := BD.maxL hB hb1 hM1
   by_cases h1 : op = 1
   ·subst h1
    rw [if_pos rfl] at hw
    subst hw
    simp (disch := first | assumption | omega) only [go_sem, reduceCtorEq, Nat.reduceEqDiff, ↓reduceIte, hc1]
    refine (dtext_ok hT2 (g1 rfl)).mono ?_
    rintro v σ' ⟨rfl, rfl⟩
    simp (disch := first | assumption | omega) only [go_sem, Nat.reduceEqDiff, ↓reduceIte]
    refine (writes1_ok hB _ (textD_ne m) (by omega)).mono ?_
    rintro v σ2 ⟨rfl, hB2⟩
    simp (disch := first | assumption | omega) only [go_sem]
    obtain ⟨σ3, hd, hB3⟩ := hoff hB2
    exact retC_by hd (.refl _) ⟨rfl, hB3⟩
   rw [if_neg h1] at hw
   by_cases h2 : op = 2
   ·subst h2
    rw [if_pos rfl] at hw
    have hQ2 := tquote_ok hM2 s (g2 rfl)
    have hQ : quotT s = 34 :: dbl s ++ [34] := rfl
    rw [hQ] at hw
    rw [hw] at hQ2
    have hwn : w ≠ [] := by rw [← hw]; simp
    simp (disch := first | assumption | omega) only [go_sem, reduceCtorEq, Nat.reduceEqDiff, Int.reduceEq, ↓reduceIte, hc1]
    refine hQ2.mono ?_
    rintro v σ' ⟨rfl, rfl⟩
    simp (disch := first | assumption | omega) only [go_sem, Nat.reduceEqDiff, ↓reduceIte]
    refine (writes1_ok hB _ hwn (by omega)).mono ?_
    rintro v σ2 ⟨rfl, hB2⟩
    simp (disch := first | assumption | omega) only [go_sem]
    obtain ⟨σ3, hd, hB3⟩ := hoff hB2
    exact retC_by hd (.refl _) ⟨rfl, hB3⟩
   rw [if_neg h2] at hw
   by_cases h3 : op = 3
   ·subst h3
    rw [if_pos rfl] at hw
    have hQ := truth_ok (!decide (m = 0))
    have hwn : w ≠ [] := by rw [← hw]; exact truthP_ne _
    rw [hw] at hQ
    simp (disch := first | assumption | omega) only [go_sem, reduceCtorEq, Nat.reduceEqDiff, Int.reduceEq, ↓reduceIte, hc1]
    refine hQ.use ?_
    simp (disch := first | assumption | omega) only [go_sem, Nat.reduceEqDiff, ↓reduceIte]
    refine (writes1_ok hB _ hwn (by omega)).mono ?_
    rintro v σ2 ⟨rfl, hB2⟩
    simp (disch := first | assumption | omega) only [go_sem]
    obtain ⟨σ3, hd, hB3⟩ := hoff hB2
    exact retC_by hd (.refl _) ⟨rfl, hB3⟩
   rw [if_neg h3] at hw
   by_cases h4 : op = 4
   ·subst h4
    rw [if_pos rfl] at hw
    obtain ⟨f1, f2⟩ := g4 rfl
    have hwn : w ≠ [] := by rw [← hw]; exact failT_ne f1 f2
    have hmb : m.natAbs ≤ 999999999999999999 := by have : (m.tdiv 10000).natAbs = m.natAbs / 10000 := Int.natAbs_tdiv m 10000; omega
    have hQ := failure_ok 4 m s a d kids hmb
    rw [Nd.av_cs, hw] at hQ
    simp (disch := first | assumption | omega) only [go_sem, reduceCtorEq, Nat.reduceEqDiff, Nat.reduceLeDiff, Int.reduceEq, ↓reduceIte, hc1]
    refine hQ.use ?_
    simp (disch := first | assumption | omega) only [go_sem, Nat.reduceEqDiff, ↓reduceIte]
    refine (writes1_ok hB _ hwn (by omega)).mono ?_
    rintro v σ2 ⟨rfl, hB2⟩
    simp (disch := first | assumption | omega) only [go_sem]
    obtain ⟨σ3, hd, hB3⟩ := hoff hB2
    exact retC_by hd (.refl _) ⟨rfl, hB3⟩
   rw [if_neg h4] at hw
   by_cases h5 : op = 5
   ·subst h5
    rw [if_pos rfl] at hw
    have hQ := text_ok hT2 (g5 (.inl rfl))
    have hwn : w ≠ [] := by rw [← hw]; exact textP_ne (g5 (.inl rfl))
    rw [hw] at hQ
    unfold refAV at hQ
    simp (disch := first | assumption | omega) only [go_sem, reduceCtorEq, Nat.reduceEqDiff, Nat.reduceAdd, Nat.reduceLeDiff, Int.reduceEq, ↓reduceIte, hc1]
    refine hQ.mono ?_
    rintro v σ' ⟨rfl, rfl⟩
    simp (disch := first | assumption | omega) only [go_sem, Nat.reduceEqDiff, ↓reduceIte]
    refine (writes1_ok hB _ hwn (by omega)).mono ?_
    rintro v σ2 ⟨rfl, hB2⟩
    simp (disch := first | assumption | omega) only [go_sem]
    obtain ⟨σ3, hd, hB3⟩ := hoff hB2
    exact retC_by hd (.refl _) ⟨rfl, hB3⟩
   rw [if_neg h5] at hw
   by_cases h6 : op = 6
   ·subst h6
    rw [if_pos rfl] at hw
    have hQ := atext_ok hT2 (g5 (.inr rfl)) (g6 rfl)
    have hwn : w ≠ [] := by rw [← hw]; simp
    rw [hw] at hQ
    unfold areaAV at hQ
    simp (disch := first | assumption | omega) only [go_sem, reduceCtorEq, Nat.reduceEqDiff, Nat.reduceAdd, Nat.reduceLeDiff, Int.reduceEq, ↓reduceIte, hc1]
    refine hQ.mono ?_
    rintro v σ' ⟨rfl, rfl⟩
    simp (disch := first | assumption | omega) only [go_sem, Nat.reduceEqDiff, ↓reduceIte]
    refine (writes1_ok hB _ hwn (by omega)).mono ?_
    rintro v σ2 ⟨rfl, hB2⟩
    simp (disch := first | assumption | omega) only [go_sem]
    obtain ⟨σ3, hd, hB3⟩ := hoff hB2
    exact retC_by hd (.refl _) ⟨rfl, hB3⟩
   rw [if_neg h6] at hw
   by_cases h7 : op = 7 ∨ op = 8
   ·rw [if_pos h7] at hw
    obtain ⟨x, ks, rfl⟩ : ∃ x ks, kids = x :: ks := by
     cases kids with
     | nil => have := g7 (by omega); simp at this
     | cons x ks => exact ⟨x, ks, rfl⟩
    obtain ⟨i1, i2⟩ := hkid x (by simp)
    have hI := fun l' σ' (hB : BD τ b l' σ') hl' => inside_ok i1 i2 6 hB hb1 hT1 hM1 hl'
    simp only [List.map_cons, List.getD_cons_zero] at hw
    generalize insT 6 x.op x.spell = t at *
    obtain ⟨xo, xm, xs, xa, xb, xk⟩ := x
    simp only [List.map_cons] at hcell hc1 ⊢
    rw [Nd.av_cs] at hI
    simp only [Nd.av_cs] at hcell hc1 ⊢
    generalize ks.map Nd.av = K at *
    rcases h7 with rfl | rfl
    ·simp only [if_true] at hw
     subst hw
     simp only [List.length_cons] at hl
     simp (disch := first | assumption | omega) only [go_sem, reduceCtorEq, Nat.reduceEqDiff, Int.reduceEq, ↓reduceIte, Int.reduceSub, hc1]
     refine (writeByte_ok hB 45 (by omega)).mono ?_
     rintro v σ2 ⟨rfl, hB2⟩
     have hc2 := hcell hB2
     simp (disch := first | assumption | omega) only [go_sem, reduceCtorEq, Nat.reduceEqDiff, Nat.reduceLeDiff, ↓reduceIte, hc2]
     refine (hI _ _ hB2 (by simp only [List.length_append, List.length_cons, List.length_nil]; omega)).mono ?_
     rintro v σ3 ⟨rfl, hB3⟩
     simp (disch := first | assumption | omega) only [go_sem]
     obtain ⟨σ4, hd, hB4⟩ := hoff hB3
     refine retC_by hd (.refl _) ⟨rfl, ?_⟩
     have e : l ++ 45 :: t = l ++ [45] ++ t := by simp
     rw [e]; exact hB4
    ·rw [if_neg (by decide)] at hw
     subst hw
     simp only [List.length_cons] at hl
     simp (disch := first | assumption | omega) only [go_sem, reduceCtorEq, Nat.reduceEqDiff, Int.reduceEq, ↓reduceIte, Int.reduceSub, Int.reduceToNat, hc1]
     refine (writeByte_ok hB 43 (by omega)).mono ?_
     rintro v σ2 ⟨rfl, hB2⟩
     have hc2 := hcell hB2
     simp (disch := first | assumption | omega) only [go_sem, reduceCtorEq, Nat.reduceEqDiff, Nat.reduceLeDiff, ↓reduceIte, hc2]
     refine (hI _ _ hB2 (by simp only [List.length_append, List.length_cons, List.length_nil]; omega)).mono ?_
     rintro v σ3 ⟨rfl, hB3⟩
     simp (disch := first | assumption | omega) only [go_sem]
     obtain ⟨σ4, hd, hB4⟩ := hoff hB3
     refine retC_by hd (.refl _) ⟨rfl, ?_⟩
     have e : l ++ 43 :: t = l ++ [43] ++ t := by simp
     rw [e]; exact hB4
   rw [if_neg h7] at hw
   have h7a : op ≠ 7 := by omega
   have h7b : op ≠ 8 := by omega
   by_cases h9 : op = 9
   ·subst h9
    rw [if_pos rfl] at hw
    obtain ⟨x, ks, rfl⟩ : ∃ x ks, kids = x :: ks := by
     cases kids with
     | nil => have := g7 (by omega); simp at this
     | cons x ks => exact ⟨x, ks, rfl⟩
    obtain ⟨i1, i2⟩ := hkid x (by simp)
    have hI := fun l' σ' (hB : BD τ b l' σ') hl' => inside_ok i1 i2 7 hB hb1 hT1 hM1 hl'
    simp only [List.map_cons, List.getD_cons_zero] at hw
    generalize insT 7 x.op x.spell = t at *
    obtain ⟨xo, xm, xs, xa, xb, xk⟩ := x
    rw [Nd.av_cs] at hI
    simp only [List.map_cons, Nd.av_cs] at hcell hc1 ⊢
    generalize ks.map Nd.av = K at *
    subst hw
    simp only [List.length_append, List.length_cons, List.length_nil] at hl
    simp (disch := first | assumption | omega) only [go_sem, reduceCtorEq, Nat.reduceEqDiff, Nat.reduceLeDiff, Int.reduceEq, ↓reduceIte, hc1]
    refine (hI _ _ hB (by omega)).mono ?_
    rintro v σ2 ⟨rfl, hB2⟩
    simp (disch := first | assumption | omega) only [go_sem, reduceCtorEq, ↓reduceIte]
    refine (writeByte_ok hB2 37 (by simp only [List.length_append]; omega)).mono ?_
    rintro v σ3 ⟨rfl, hB3⟩
    simp (disch := first | assumption | omega) only [go_sem]
    obtain ⟨σ4, hd, hB4⟩ := hoff hB3
    refine retC_by hd (.refl _) ⟨rfl, ?_⟩
    rw [← List.append_assoc]; exact hB4
   rw [if_neg h9] at hw
   by_cases h22 : op = 22
   ·subst h22
    rw [if_pos rfl] at hw
    have hsn := gc rfl
    have hjt := joinC_take_le (kids.map fun x => (x.op, x.spell))
    have hspl : ∀ (i : Nat) (x : Nd), kids[i]? = some x → (kids.map fun x => (x.op, x.spell)).take (i + 1) = (kids.map fun x => (x.op, x.spell)).take i ++ [(x.op, x.spell)] := by
     intro i x hx
     have hlt : i < kids.length := (List.getElem?_eq_some_iff.1 hx).1
     rw [List.take_add_one, List.getElem?_map, hx]
     rfl
    have hspn : ∀ i, 0 < i → i < kids.length → (kids.map fun x => (x.op, x.spell)).take i ≠ [] := by
     intro i h0 h1 e
     have := congrArg List.length e
     rw [List.length_take, List.length_map, List.length_nil] at this
     omega
    have hspa : (kids.map fun x => (x.op, x.spell)).take kids.length = kids.map fun x => (x.op, x.spell) := List.take_of_length_le (by simp)
    have hspz : joinC ((kids.map fun x => (x.op, x.spell)).take 0) = [] := rfl
    generalize (kids.map fun x => (x.op, x.spell)) = sp at *
    subst hw
    simp only [List.length_append, List.length_cons, List.length_nil] at hl
    simp (disch := first | assumption | omega) only [go_sem, reduceCtorEq, Nat.reduceEqDiff, Int.reduceEq, ↓reduceIte, hc1]
    refine (writes1_ok hB _ hsn (by omega)).mono ?_
    rintro v σ2 ⟨rfl, hB2⟩
    simp (disch := first | assumption | omega) only [go_sem, reduceCtorEq, ↓reduceIte]
    refine (writeByte_ok hB2 40 (by simp only [List.length_append]; omega)).mono ?_
    rintro v σ3 ⟨rfl, hB3⟩
    have hc3 := hcell hB3
    obtain ⟨G, hG⟩ : ∃ G, G = ACode.wp Tryz.prog c16_47 := ⟨_, rfl⟩
    simp (disch := first | assumption | omega) only [go_sem, Nat.reduceEqDiff, ↓reduceIte, hc3, ←hG]
    refine wp_loop_by (fun (i : Nat) a1 s2 => i ≤ kids.length ∧ (a1 0 = .ptr b 0 ∧ a1 114 = .sl .shr (kids.map Nd.av) ∧ a1 115 = .int .i64 kids.length ∧ a1 116 = .int .i64 i) ∧ BD τ b (l ++ s ++ [40] ++ joinC (sp.take i)) s2) (fun i => kids.length - i) 0 (Dr.now ⟨Nat.zero_le _, ?_, ?_⟩) ?_
    ·simp (disch := first | assumption | omega) only [go_sem, reduceCtorEq, Nat.reduceEqDiff, ↓reduceIte]
    ·rw [hspz, List.append_nil]; exact hB3
    rintro i a1 s2 ⟨hi, hf, hBi⟩
    have hji := hjt i
    by_cases hlt : i < kids.length
    ·have hlt' : (i : Int) < kids.length := by omega
     have hx : kids[i]? = some (kids[i]'hlt) := List.getElem?_eq_getElem hlt
     obtain ⟨x, hxe⟩ : ∃ x, kids[i]'hlt = x := ⟨_, rfl⟩
     rw [hxe] at hx
     have hmx := Nd.get hx
     have hspx := hspl i x hx
     have hjs := hjt (i + 1)
     obtain ⟨i1, i2⟩ := hkid x (List.mem_of_getElem? hx)
     obtain ⟨xo, xm, xs, xa, xb, xk⟩ := x
     rw [Nd.av_cs] at hmx
     have i1' : ∀ (σ0 σ : ASt) (b : Nat) (l : List UInt8), BD σ0 b l σ → σ0 b = none → Tab σ0 → MaxL σ0 → l.length + (Nd.mk xo xm xs xa xb xk).spell.length ≤ 900000000 →
       ACalls Tryz.prog 16 [.ptr b 0, .agg (Nd.cs xo xm xs xa xb (xk.map Nd.av))] σ fun v σ' => v = .tuple [] ∧ BD σ0 b (l ++ (Nd.mk xo xm xs xa xb xk).spell) σ' := by rw [← Nd.av_cs]; exact i1
     generalize hxw : (Nd.mk xo xm xs xa xb xk).spell = xw at *
     generalize xk.map Nd.av = K at *
     generalize kids.map Nd.av = L at *
     simp (disch := first | assumption | omega) only [go_sem, Nat.reduceEqDiff, Nat.reduceLeDiff, ↓reduceIte, hf, hlt', hmx]
     refine allocC_by fun e he => ?_
     obtain ⟨hBe, heb, he0⟩ := hBi.add he (r := .obj (Nd.cs xo xm xs xa xb K))
     have hbe : (τ.set e (some (.obj (Nd.cs xo xm xs xa xb K)))) b = none := by rw [ASt.set_ne (Ne.symm heb)]; exact hb1
     have hTe := hT1.set he0 (r := some (.obj (Nd.cs xo xm xs xa xb K)))
     have hMe := hM1.set he0 (r := some (.obj (Nd.cs xo xm xs xa xb K)))
     have hcelle : ∀ {l' : List UInt8} {σ1 : ASt}, BD (τ.set e (some (.obj (Nd.cs xo xm xs xa xb K)))) b l' σ1 → σ1 e = some (.obj (Nd.cs xo xm xs xa xb K)) := fun h => h.at heb (ASt.set_same _ _ _)
     have hoffe : ∀ {l' : List UInt8} {σ1 : ASt}, BD (τ.set e (some (.obj (Nd.cs xo xm xs xa xb K)))) b l' σ1 → ∃ σ', Drop σ1 σ' ∧ BD τ b l' σ' := fun h => h.off heb he0
     have hce := hcelle hBe
     by_cases h0 : i = 0
     ·subst h0
      have hz : ((0 : Nat) : Int) = 0 := rfl
      have hj1 : joinC (sp.take (0 + 1)) = xw := by rw [hspx]; simp [joinC]
      rw [hj1] at hjs
      rw [hspz, List.append_nil] at hBe
      simp (disch := first | assumption | omega) only [go_sem, reduceCtorEq, Nat.reduceEqDiff, Nat.reduceAdd, Nat.reduceLeDiff, Int.reduceLT, ↓reduceIte, hf, hz, ASt.set_set, hce]
      refine (i1' _ _ _ _ hBe hbe hTe hMe (by simp only [List.length_append, List.length_cons, List.length_nil]; omega)).mono ?_
      rintro v σ4 ⟨rfl, hB4⟩
      simp (disch := first | assumption | omega) only [go_sem, Nat.reduceEqDiff, ↓reduceIte, Int.reduceAdd, hf]
      obtain ⟨σ5, hd, hB5⟩ := hoffe hB4
      refine ⟨0 + 1, by dsimp only; omega, Dr.drop hd ⟨by omega, ?_, ?_⟩⟩
      ·simp (disch := first | assumption | omega) only [go_sem, reduceCtorEq, Nat.reduceEqDiff, ↓reduceIte, hf]
      ·rw [hj1]; exact hB5
     ·have h0' : (0 : Int) < i := by omega
      have hj1 : joinC (sp.take (i + 1)) = joinC (sp.take i) ++ 44 :: xw := by rw [hspx, joinC_snoc _ _ (hspn i (by omega) hlt)]
      rw [hj1] at hjs
      simp only [List.length_append, List.length_cons] at hjs
      simp (disch := first | assumption | omega) only [go_sem, reduceCtorEq, Nat.reduceEqDiff, Nat.reduceAdd, Nat.reduceLeDiff, ↓reduceIte, hf, h0', ASt.set_set]
      refine (writeByte_ok hBe 44 (by simp only [List.length_append, List.length_cons, List.length_nil]; omega)).mono ?_
      rintro v σ4 ⟨rfl, hB4⟩
      have hc4 := hcelle hB4
      simp (disch := first | assumption | omega) only [go_sem, reduceCtorEq, Nat.reduceEqDiff, Nat.reduceLeDiff, ↓reduceIte, hf, hc4]
      refine (i1' _ _ _ _ hB4 hbe hTe hMe (by simp only [List.length_append, List.length_cons, List.length_nil]; omega)).mono ?_
      rintro v σ5 ⟨rfl, hB5⟩
      simp (disch := first | assumption | omega) only [go_sem, Nat.reduceEqDiff, ↓reduceIte, hf]
      obtain ⟨σ6, hd, hB6⟩ := hoffe hB5
      refine ⟨i + 1, by dsimp only; omega, Dr.drop hd ⟨by omega, ?_, ?_⟩⟩
      ·simp (disch := first | assumption | omega) only [go_sem, reduceCtorEq, Nat.reduceEqDiff, ↓reduceIte, hf]
      ·have e2 : l ++ s ++ [40] ++ joinC (sp.take (i + 1)) = l ++ s ++ [40] ++ joinC (sp.take i) ++ [44] ++ xw := by rw [hj1]; simp
       rw [e2]; exact hB6
    ·have hlt' : ¬ (i : Int) < kids.length := by omega
     have hie : i = kids.length := by omega
     rw [hie, hspa] at hBi
     simp (disch := first | assumption | omega) only [go_sem, ↓reduceIte, hf, hlt']
     rw [hG]
     simp (disch := first | assumption | omega) only [go_sem, reduceCtorEq, ↓reduceIte, hf]
     refine (writeByte_ok hBi 41 (by simp only [List.length_append, List.length_cons, List.length_nil]; omega)).mono ?_
     rintro v σ4 ⟨rfl, hB4⟩
     simp (disch := first | assumption | omega) only [go_sem]
     obtain ⟨σ5, hd, hB5⟩ := hoff hB4
     refine retC_by hd (.refl _) ⟨rfl, ?_⟩
     have e2 : l ++ (s ++ 40 :: (joinC sp ++ [41])) = l ++ s ++ [40] ++ joinC sp ++ [41] := by simp
     first
      | (rw [e2]; exact hB5)
      | (have e3 : l ++ (s ++ 40 :: joinC sp ++ [41]) = l ++ s ++ [40] ++ joinC sp ++ [41] := by simp
         rw [e3]; exact hB5)
   rw [if_neg h22] at hw
   by_cases h23 : op = 23
   ·subst h23
    rw [if_pos rfl] at hw
    subst hw
    simp (disch := first | assumption | omega) only [go_sem, Nat.reduceEqDiff, Int.reduceEq, ↓reduceIte, hc1]
    obtain ⟨σ3, hd, hB3⟩ := hoff hB
    exact retC_by hd (.refl _) ⟨rfl, hB3⟩
   rw [if_neg h23] at hw
   obtain ⟨x, y, ks, rfl⟩ : ∃ x y ks, kids = x :: y :: ks := by
    have := gb (by omega)
    match kids, this with
    | x :: y :: ks, _ => exact ⟨x, y, ks, rfl⟩
   obtain ⟨i1, i2⟩ := hkid x (by simp)
   obtain ⟨j1, j2⟩ := hkid y (by simp)
   have hI := fun l' σ' (hB : BD τ b l' σ') hl' => inside_ok i1 i2 (levelP op) hB hb1 hT1 hM1 hl'
   have hJ := fun l' σ' (hB : BD τ b l' σ') hl' => inside_ok j1 j2 (levelP op + 1) hB hb1 hT1 hM1 hl'
   have hLv := level_ok op (by omega) (by omega)
   have hlb : 0 ≤ levelP op ∧ levelP op ≤ 8 := by unfold levelP; repeat' split
                                                  all_goals omega
   simp only [List.map_cons, List.getD_cons_zero, List.getD_cons_succ] at hw
   generalize insT (levelP op) x.op x.spell = t at *
   generalize insT (levelP op + 1) y.op y.spell = u at *
   generalize levelP op = lv at *
   obtain ⟨xo, xm, xs, xa, xb, xk⟩ := x
   obtain ⟨yo, ym, ys, ya, yb, yk⟩ := y
   rw [Nd.av_cs] at hI hJ
   simp only [List.map_cons, Nd.av_cs] at hcell hc1 ⊢
   generalize ks.map Nd.av = K at *
   obtain ⟨j, hj⟩ : ∃ j : Nat, op = j + 10 := ⟨(op - 10).toNat, by omega⟩
   have hj2 : (op - 10).toNat = j := by omega
   have hj3 : op - 10 = (j : Int) := by omega
   rw [hj2] at hw
   have hjl : j < 12 := by omega
   obtain ⟨sg, hsg⟩ : ∃ sg, signL[j]? = some sg := ⟨signL[j]'(by simp [signL]; omega), List.getElem?_eq_getElem _⟩
   have hsg2 : signL.getD j [] = sg := by rw [List.getD_eq_getElem?_getD, hsg]; rfl
   have hsl := sign_len j
   have hsn : sg ≠ [] := by
    have : ∀ j < 12, signL.getD j [] ≠ [] := by decide
    rw [← hsg2]; exact this j hjl
   rw [hsg2] at hw hsl
   have hmg : (signL.map AV.str)[j]? = some (.str sg) := by rw [List.getElem?_map, hsg]; rfl
   have hSg := esigns_ok
   generalize signL.map AV.str = SL at *
   subst hw
   simp only [List.length_append] at hl
   simp (disch := first | assumption | omega) only [go_sem, Nat.reduceEqDiff, ↓reduceIte, hc1, h1, h2, h3, h4, h5, h6, h7a, h7b, h9, h22, h23]
   refine hLv.use ?_
   simp (disch := first | assumption | omega) only [go_sem, reduceCtorEq, Nat.reduceEqDiff, Nat.reduceLeDiff, ↓reduceIte, hc1]
   refine (hI _ _ hB (by omega)).mono ?_
   rintro v σ2 ⟨rfl, hB2⟩
   have hc2 := hcell hB2
   simp (disch := first | assumption | omega) only [go_sem, reduceCtorEq, Nat.reduceEqDiff, ↓reduceIte, hc2]
   refine hSg.use ?_
   simp (disch := first | assumption | omega) only [go_sem, Nat.reduceEqDiff, ↓reduceIte, hc2, hj3, hmg]
   refine (writes1_ok hB2 _ hsn (by simp only [List.length_append]; omega)).mono ?_
   rintro v σ3 ⟨rfl, hB3⟩
   have hc3 := hcell hB3
   simp (disch := first | assumption | omega) only [go_sem, reduceCtorEq, Nat.reduceEqDiff, Nat.reduceLeDiff, ↓reduceIte, Int.reduceToNat, hc3]
   refine (hJ _ _ hB3 (by simp only [List.length_append]; omega)).mono ?_
   rintro v σ4 ⟨rfl, hB4⟩
   simp (disch := first | assumption | omega) only [go_sem]
   obtain ⟨σ5, hd, hB5⟩ := hoff hB4
   refine retC_by hd (.refl _) ⟨rfl, ?_⟩
   have e : l ++ (t ++ (sg ++ u)) = l ++ t ++ sg ++ u := by simp
   first
    | (rw [e]; exact hB5)
    | (rw [← List.append_assoc, ← List.append_assoc]; exact hB5)
end Go.A
namespace Go.A
open Go.Proofs
/-! 8: tabular/expr.Print -/
def c8_0 : ACode := .ops [
 ⟨some 1, none, .e (.box (.t 0)), []⟩,
 ⟨some 2, none, .q (.mv (.v (.str []))), []⟩]
def c8_1 : ACode := .ops [
 ⟨some 3, none, .e (.allocT 55), []⟩]
def c8_2 : ACode := .ops [
 ⟨some 4, none, .q (.ld (some 12) (.t 1)), []⟩,
 ⟨some 5, none, .e (.call 16 [(.t 3), (.t 4)]), []⟩]
def c8_3 : ACode := .ops [
 ⟨some 6, none, .e (.call 17 [(.t 3)]), []⟩,
 ⟨some 2, none, .q (.mv (.t 6)), []⟩]
def c8_4 : ACode := .seq c8_3 .ret
def c8_5 : ACode := .seq c8_2 c8_4
def c8_6 : ACode := .seq c8_1 c8_5
def c8_7 : ACode := .seq c8_0 c8_6
@[go_sem] def c8_0_wp := wp_of c8_0.eq_1
@[go_sem] def c8_1_wp := wp_of c8_1.eq_1
@[go_sem] def c8_2_wp := wp_of c8_2.eq_1
@[go_sem] def c8_3_wp := wp_of c8_3.eq_1
@[go_sem] def c8_4_wp := wp_of c8_4.eq_1
@[go_sem] def c8_5_wp := wp_of c8_5.eq_1
@[go_sem] def c8_6_wp := wp_of c8_6.eq_1
@[go_sem] def c8_7_wp := wp_of c8_7.eq_1
def c8 : AFn := ⟨7, [.t 2], c8_7⟩
theorem c8_ok : compF Tryz.prog Tryz.f8 = some c8 := by kernel_rfl
theorem a8 {args : List AV} {σ : ASt} {R : AV → ASt → Prop} (hl : args.length ≤ 7) (h : c8_7.wp Tryz.prog (RetQ [.t 2] R) (init args) σ) : ACalls Tryz.prog 8 args σ R := acalls_of Tryz.func8 c8_ok hl h
end Go.A
namespace Go.A
open Go.Proofs Go.Lib
theorem print_ok {σ : ASt} (hT : Tab σ) (hM : MaxL σ) (n : Nd) (hn : n.ok) (hl : n.spell.length ≤ 900000000) : ACalls Tryz.prog 8 [n.av] σ fun v σ' => v = .str n.spell ∧ σ' = σ := by
 have hS := spell_ok n.size n (Nat.le_refl _) hn
 obtain ⟨op, m, s, a, d, kids⟩ := n
 unfold SpellOk at hS
 rw [Nd.av_cs] at hS ⊢
 generalize (Nd.mk op m s a d kids).spell = w at *
 generalize kids.map Nd.av = L at *
 refine a8 (by simp) ?_
 simp (disch := first | assumption | omega) only [go_sem]
 refine boxC_by rfl fun c hc => ?_
 simp (disch := first | assumption | omega) only [go_sem]
 refine allocTC_by fun b hb => ?_
 have hbb := hb
 obtain ⟨n1, n2, n3⟩ := set_none hb
 have hB : BD (σ.set c (some (.obj (Nd.cs op m s a d L)))) b [] ((σ.set c (some (.obj (Nd.cs op m s a d L)))).set b (some (.typ 55 [.pointer none, .slice none 0 0]))) := .inl ⟨rfl, rfl⟩
 have hT1 := hT.set hc (r := some (.obj (Nd.cs op m s a d L)))
 have hM1 := hM.set hc (r := some (.obj (Nd.cs op m s a d L)))
 simp (disch := first | assumption | omega) only [go_sem, Nat.reduceEqDiff, Nat.reduceLeDiff, ↓reduceIte]
 refine (hS _ _ _ _ hB hbb hT1 hM1 (by simp only [List.length_nil]; omega)).mono ?_
 rintro v σ1 ⟨rfl, hB1⟩
 rw [List.nil_append] at hB1
 simp (disch := first | assumption | omega) only [go_sem, Nat.reduceEqDiff, ↓reduceIte]
 refine (bstring_ok hB1 (by omega)).mono ?_
 rintro v σ2 ⟨rfl, rfl⟩
 simp (disch := first | assumption | omega) only [go_sem, ↓reduceIte]
 exact retC_by ((hB1.over hbb).drop.trans (Drop.set hc)) (.refl _) ⟨rfl, rfl⟩
theorem SDrop.cong {σ σ' : ASt} {b : Nat} {c d : List AV} (h : SDrop σ σ') (he : Go.A.deeps c = d) : SDrop (σ.set b (some (.obj c))) (σ'.set b (some (.obj d))) := fun x => by
 by_cases hx : x = b
 ·subst hx
  exact .inr (.inr ⟨c, by rw [ASt.set_same], by rw [ASt.set_same, he]⟩)
 ·rw [ASt.set_ne hx, ASt.set_ne hx]
  exact h x
theorem set_mid {σ : ASt} {b c : Nat} {X Y Z : Option Role} (h : b ≠ c) : ((σ.set b X).set c Y).set b Z = (σ.set b Z).set c Y := by
 funext x
 simp only [ASt.set]
 by_cases h1 : x = b
 ·subst h1; simp [h]
 ·simp [h1]
end Go.A
namespace Go.A
open Go.Proofs
/-! 9: tabular/expr.Same -/
def c9_0 : ACode := .ops [
 ⟨some 2, none, .e (.box (.t 0)), []⟩,
 ⟨some 3, none, .e (.box (.t 1)), []⟩,
 ⟨some 4, none, .q (.mv (.v (.bool false))), []⟩]
def c9_1 : ACode := .ops [
 ⟨some 5, none, .q (.fa 0 (.t 2)), []⟩,
 ⟨some 6, none, .q (.ld none (.t 5)), []⟩,
 ⟨some 7, none, .q (.fa 0 (.t 3)), []⟩,
 ⟨some 8, none, .q (.ld none (.t 7)), []⟩,
 ⟨some 9, none, .q (.bin .eql (.t 6) (.t 8)), []⟩,
 ⟨some 10, none, .q (.mv (.t 9)), []⟩,
 ⟨some 11, some (10, true), .q (.fa 1 (.t 2)), []⟩,
 ⟨some 12, some (10, true), .q (.ld none (.t 11)), []⟩,
 ⟨some 13, some (10, true), .q (.fa 1 (.t 3)), []⟩,
 ⟨some 14, some (10, true), .q (.ld none (.t 13)), []⟩,
 ⟨some 15, some (10, true), .q (.bin .eql (.t 12) (.t 14)), []⟩,
 ⟨some 16, none, .q (.pick (.t 10) (.t 15) (.v (.bool false))), []⟩,
 ⟨some 17, none, .q (.mv (.t 16)), []⟩,
 ⟨some 18, some (17, true), .q (.fa 2 (.t 2)), []⟩,
 ⟨some 19, some (17, true), .q (.ld none (.t 18)), []⟩,
 ⟨some 20, some (17, true), .q (.fa 2 (.t 3)), []⟩,
 ⟨some 21, some (17, true), .q (.ld none (.t 20)), []⟩,
 ⟨some 22, some (17, true), .q (.bin .eql (.t 19) (.t 21)), []⟩,
 ⟨some 23, none, .q (.pick (.t 17) (.t 22) (.v (.bool false))), []⟩,
 ⟨some 24, none, .q (.mv (.t 23)), []⟩,
 ⟨some 25, some (24, true), .q (.fa 3 (.t 2)), []⟩,
 ⟨some 26, some (24, true), .q (.ld (some 4) (.t 25)), []⟩,
 ⟨some 27, some (24, true), .q (.fa 3 (.t 3)), []⟩,
 ⟨some 28, some (24, true), .q (.ld (some 4) (.t 27)), []⟩,
 ⟨some 29, some (24, true), .q (.eqs false [(0, 0), (1, 0), (2, 1), (3, 1)] (.t 26) (.t 28)), []⟩,
 ⟨some 30, none, .q (.pick (.t 24) (.t 29) (.v (.bool false))), []⟩,
 ⟨some 31, none, .q (.mv (.t 30)), []⟩,
 ⟨some 32, some (31, true), .q (.fa 7 (.t 2)), []⟩,
 ⟨some 33, some (31, true), .q (.ld (some 4) (.t 32)), []⟩,
 ⟨some 34, some (31, true), .q (.fa 7 (.t 3)), []⟩,
 ⟨some 35, some (31, true), .q (.ld (some 4) (.t 34)), []⟩,
 ⟨some 36, some (31, true), .q (.eqs false [(0, 0), (1, 0), (2, 1), (3, 1)] (.t 33) (.t 35)), []⟩,
 ⟨some 37, none, .q (.pick (.t 31) (.t 36) (.v (.bool false))), []⟩,
 ⟨some 38, none, .q (.mv (.t 37)), []⟩,
 ⟨some 39, some (38, true), .q (.fa 11 (.t 2)), []⟩,
 ⟨some 40, some (38, true), .q (.ld none (.t 39)), []⟩,
 ⟨some 41, some (38, true), .q (.fa 11 (.t 3)), []⟩,
 ⟨some 42, some (38, true), .q (.ld none (.t 41)), []⟩,
 ⟨some 43, some (38, true), .e (.call 18 [(.t 40), (.t 42), (.v (.func (.func 9) [] []))]), []⟩,
 ⟨some 44, none, .q (.pick (.t 38) (.t 43) (.v (.bool false))), []⟩,
 ⟨some 4, none, .q (.mv (.t 44)), []⟩]
def c9_2 : ACode := .seq c9_1 .ret
def c9_3 : ACode := .seq c9_0 c9_2
@[go_sem] def c9_0_wp := wp_of c9_0.eq_1
@[go_sem] def c9_1_wp := wp_of c9_1.eq_1
@[go_sem] def c9_2_wp := wp_of c9_2.eq_1
@[go_sem] def c9_3_wp := wp_of c9_3.eq_1
def c9 : AFn := ⟨45, [.t 4], c9_3⟩
theorem c9_ok : compF Tryz.prog Tryz.f9 = some c9 := by kernel_rfl
theorem a9 {args : List AV} {σ : ASt} {R : AV → ASt → Prop} (hl : args.length ≤ 45) (h : c9_3.wp Tryz.prog (RetQ [.t 4] R) (init args) σ) : ACalls Tryz.prog 9 args σ R := acalls_of Tryz.func9 c9_ok hl h
/-! 18: slices.EqualFunc[[]tabular/expr.Node,[]tabular/expr.Node,tabular/expr.Node,tabular/expr.Node] -/
def c18_0 : ACode := .ops [
 ⟨some 6, none, .q (.mv (.v (.bool false))), []⟩]
def c18_1 : ACode := .ops [
 ⟨some 10, none, .q (.mv (.t 0)), []⟩,
 ⟨some 11, none, .q (.len (.t 10)), []⟩,
 ⟨some 12, none, .q (.mv (.t 1)), []⟩,
 ⟨some 13, none, .q (.len (.t 12)), []⟩,
 ⟨some 14, none, .q (.bin .neq (.t 11) (.t 13)), []⟩]
def c18_2 : ACode := .ops [
 ⟨some 6, none, .q (.mv (.v (.bool false))), []⟩]
def c18_3 : ACode := .seq c18_2 .ret
def c18_4 : ACode := .cond (.t 14) c18_3 .skip
def c18_5 : ACode := .seq c18_1 c18_4
def c18_6 : ACode := .ops [
 ⟨some 15, none, .q (.mv (.t 0)), []⟩,
 ⟨some 16, none, .q (.len (.t 15)), []⟩,
 ⟨some 17, none, .q (.mv (.v (.int .i64 0))), []⟩]
def c18_7 : ACode := .ops [
 ⟨some 18, none, .q (.bin .lss (.t 17) (.t 16)), []⟩]
def c18_8 : ACode := .cond (.t 18) .skip (.exit 0)
def c18_9 : ACode := .ops [
 ⟨some 19, none, .q (.mv (.t 17)), []⟩,
 ⟨some 20, none, .q (.ia 12 (.t 15) (.t 17)), []⟩,
 ⟨some 21, none, .q (.ld (some 12) (.t 20)), []⟩,
 ⟨some 8, none, .e (.alloc [(.int .i64 0), (.int .i64 0), (.str []), (.int .i64 0), (.int .i64 0), (.bool false), (.bool false), (.int .i64 0), (.int .i64 0), (.bool false), (.bool false), (.sl .full [])]), []⟩,
 ⟨some 7, none, .q (.mv (.t 19)), []⟩,
 ⟨none, none, .e (.store 12 (.t 8) (.t 21)), []⟩]
def c18_10 : ACode := .ops [
 ⟨some 22, none, .q (.mv (.t 1)), []⟩,
 ⟨some 23, none, .q (.mv (.t 7)), []⟩,
 ⟨some 24, none, .q (.ia 12 (.t 22) (.t 23)), []⟩,
 ⟨some 25, none, .q (.ld (some 12) (.t 24)), []⟩,
 ⟨some 9, none, .e (.alloc [(.int .i64 0), (.int .i64 0), (.str []), (.int .i64 0), (.int .i64 0), (.bool false), (.bool false), (.int .i64 0), (.int .i64 0), (.bool false), (.bool false), (.sl .full [])]), []⟩,
 ⟨none, none, .e (.store 12 (.t 9) (.t 25)), []⟩]
def c18_11 : ACode := .ops [
 ⟨some 26, none, .q (.mv (.t 2)), []⟩,
 ⟨some 27, none, .q (.ld (some 12) (.t 8)), []⟩,
 ⟨some 28, none, .q (.ld (some 12) (.t 9)), []⟩,
 ⟨some 29, none, .e (.callv (.t 26) [(.t 27), (.t 28)]), []⟩,
 ⟨some 30, none, .q (.un .not (.t 29)), []⟩]
def c18_12 : ACode := .ops [
 ⟨some 6, none, .q (.mv (.v (.bool false))), []⟩]
def c18_13 : ACode := .seq c18_12 .ret
def c18_14 : ACode := .cond (.t 30) c18_13 .skip
def c18_15 : ACode := .seq c18_11 c18_14
def c18_16 : ACode := .seq c18_10 c18_15
def c18_17 : ACode := .seq c18_9 c18_16
def c18_18 : ACode := .block 1 c18_17
def c18_19 : ACode := .ops [
 ⟨some 31, none, .q (.bin .add (.t 17) (.v (.int .i64 1))), []⟩,
 ⟨some 17, none, .q (.mv (.t 31)), []⟩]
def c18_20 : ACode := .seq c18_18 c18_19
def c18_21 : ACode := .seq c18_8 c18_20
def c18_22 : ACode := .seq c18_7 c18_21
def c18_23 : ACode := .loop c18_22
def c18_24 : ACode := .block 0 c18_23
def c18_25 : ACode := .seq c18_6 c18_24
def c18_26 : ACode := .ops [
 ⟨some 6, none, .q (.mv (.v (.bool true))), []⟩]
def c18_27 : ACode := .seq c18_26 .ret
def c18_28 : ACode := .seq c18_25 c18_27
def c18_29 : ACode := .seq c18_5 c18_28
def c18_30 : ACode := .seq c18_0 c18_29
@[go_sem] def c18_0_wp := wp_of c18_0.eq_1
@[go_sem] def c18_1_wp := wp_of c18_1.eq_1
@[go_sem] def c18_2_wp := wp_of c18_2.eq_1
@[go_sem] def c18_3_wp := wp_of c18_3.eq_1
@[go_sem] def c18_4_wp := wp_of c18_4.eq_1
@[go_sem] def c18_5_wp := wp_of c18_5.eq_1
@[go_sem] def c18_6_wp := wp_of c18_6.eq_1
@[go_sem] def c18_7_wp := wp_of c18_7.eq_1
@[go_sem] def c18_8_wp := wp_of c18_8.eq_1
@[go_sem] def c18_9_wp := wp_of c18_9.eq_1
@[go_sem] def c18_10_wp := wp_of c18_10.eq_1
@[go_sem] def c18_11_wp := wp_of c18_11.eq_1
@[go_sem] def c18_12_wp := wp_of c18_12.eq_1
@[go_sem] def c18_13_wp := wp_of c18_13.eq_1
@[go_sem] def c18_14_wp := wp_of c18_14.eq_1
@[go_sem] def c18_15_wp := wp_of c18_15.eq_1
@[go_sem] def c18_16_wp := wp_of c18_16.eq_1
@[go_sem] def c18_17_wp := wp_of c18_17.eq_1
@[go_sem] def c18_18_wp := wp_of c18_18.eq_1
@[go_sem] def c18_19_wp := wp_of c18_19.eq_1
@[go_sem] def c18_20_wp := wp_of c18_20.eq_1
@[go_sem] def c18_21_wp := wp_of c18_21.eq_1
@[go_sem] def c18_22_wp := wp_of c18_22.eq_1
@[go_sem] def c18_23_wp := wp_of c18_23.eq_1
@[go_sem] def c18_24_wp := wp_of c18_24.eq_1
@[go_sem] def c18_25_wp := wp_of c18_25.eq_1
@[go_sem] def c18_26_wp := wp_of c18_26.eq_1
@[go_sem] def c18_27_wp := wp_of c18_27.eq_1
@[go_sem] def c18_28_wp := wp_of c18_28.eq_1
@[go_sem] def c18_29_wp := wp_of c18_29.eq_1
@[go_sem] def c18_30_wp := wp_of c18_30.eq_1
def c18 : AFn := ⟨32, [.t 6], c18_30⟩
theorem c18_ok : compF Tryz.prog Tryz.f18 = some c18 := by kernel_rfl
theorem a18 {args : List AV} {σ : ASt} {R : AV → ASt → Prop} (hl : args.length ≤ 32) (h : c18_30.wp Tryz.prog (RetQ [.t 6] R) (init args) σ) : ACalls Tryz.prog 18 args σ R := acalls_of Tryz.func18 c18_ok hl h
end Go.A
namespace Go.A
def OwnSl (σ0 σ : ASt) (v : AV) (xs : List AV) (s : Nat) : Prop :=
 (xs = [] ∧ v = .sl .full [] ∧ σ = σ0) ∨ ∃ b c rest, v = .msl b 0 xs.length c ∧ xs.length ≤ c ∧ rest.length = (c - xs.length) * s ∧ σ0 b = none ∧ σ = σ0.set b (some (.obj (xs.flatMap AV.cells ++ rest)))
theorem OwnSl.drop {σ0 σ : ASt} {v : AV} {xs : List AV} {s : Nat} (h : OwnSl σ0 σ v xs s) : Drop σ σ0 := by
 rcases h with ⟨_, _, rfl⟩ | ⟨b, c, rest, _, _, _, hb, rfl⟩
 ·exact Drop.refl _
 ·exact Drop.set hb
def zrow (s : Nat) (z : List AV) (n c : Nat) : List AV := (List.range ((c - n) * s)).map fun i => z.getD (i % s) .any
theorem zrow_len (s : Nat) (z : List AV) (n c : Nat) : (zrow s z n c).length = (c - n) * s := by simp [zrow]
theorem ownRow_z {s n c : Nat} {z cs : List AV} : ownRow s z cs n c = cs ++ zrow s z n c := rfl
theorem OwnSl.app {e : TypeId} {σ0 σ : ASt} {v : AV} {xs ys z : List AV} {s bytes : Nat} {k2 : SK} {K : AV → ASt → Prop} (h : OwnSl σ0 σ v xs s) (hx : ∀ x ∈ xs, x.cells.length = s) (h2 : wellSz s ys = true) (h3 : leaves (ys.flatMap AV.cells) = true)
  (h4 : (xs.length + ys.length) * bytes ≤ 140737488355328) (h5 : xs.length + ys.length ≤ 4611686018427387904) (h6 : 0 < ys.length)
  (hK : ∀ v' σ', (∃ σ2, Drop σ' σ2 ∧ OwnSl σ0 σ2 v' (xs ++ ys) s) → K v' σ') : appC e s bytes z v (.sl k2 ys) σ K := by
 have hyl : (ys.flatMap AV.cells).length = ys.length * s := lens_flat (wellSz_lens h2)
 have hxl : (xs.flatMap AV.cells).length = xs.length * s := lens_flat hx
 rcases h with ⟨rfl, rfl, rfl⟩ | ⟨b, c, rest, rfl, hc, hr, hb, rfl⟩
 ·refine appO_by rfl h2 h3 h4 h5 h6 fun b c hb hc => hK _ _ ⟨_, Drop.refl _, .inr ⟨b, c, zrow s z (([] : List AV).length + ys.length) c, ?_, ?_, ?_, hb, ?_⟩⟩
  ·simp
  ·simpa using hc
  ·rw [zrow_len]; simp
  ·rw [ownRow_z]; simp only [List.nil_append, List.flatMap_nil]
 ·rw [appC_msl, ASt.set_same]
  refine appM_by h2 h3 h4 h5 (by rw [List.length_append, hxl, hr]; omega) (fun hroom => ⟨?_, ?_⟩) (fun hgrow b' c' hb' hc' => ?_)
  ·rw [List.length_append, hxl, hr, Nat.zero_add, ← Nat.add_mul]
   exact Nat.mul_le_mul_right _ (by omega)
  ·rw [ASt.set_set]
   refine hK _ _ ⟨_, Drop.refl _, .inr ⟨b, c, rest.drop (ys.length * s), by simp, by simpa using hroom, ?_, hb, ?_⟩⟩
   ·rw [List.length_drop, hr, ← Nat.sub_mul, List.length_append]
    congr 1
    omega
   ·congr 3
    unfold splice
    rw [Nat.zero_add, List.flatMap_append]
    have e1 : (xs.flatMap AV.cells ++ rest).take (xs.length * s) = xs.flatMap AV.cells := by rw [← hxl]; simp
    have e2 : (xs.flatMap AV.cells ++ rest).drop (xs.length * s + ys.length * s) = rest.drop (ys.length * s) := by rw [← hxl, ← List.drop_drop]; simp
    rw [e1, e2]
  ·obtain ⟨m1, m2, hb0⟩ := set_none hb'
   have e1 : ((xs.flatMap AV.cells ++ rest).drop 0).take (xs.length * s) = xs.flatMap AV.cells := by rw [← hxl]; simp
   rw [e1]
   refine hK _ _ ⟨σ0.set b' (some (.obj (ownRow s z (xs.flatMap AV.cells ++ ys.flatMap AV.cells) (xs.length + ys.length) c'))), ?_, .inr ⟨b', c', zrow s z (xs.length + ys.length) c', by simp, by simpa using hc', by rw [zrow_len, List.length_append], hb0, ?_⟩⟩
   ·rw [set_swap m2]
    exact Drop.set (by rw [ASt.set_ne m2]; exact hb)
   ·rw [ownRow_z, List.flatMap_append]
theorem OwnSl.at {σ0 σ : ASt} {x : Nat} {r : Role} {v : AV} {xs : List AV} {s : Nat} (h : OwnSl σ0 σ v xs s) (hx : σ0 x = some r) : σ x = some r := by
 rcases h with ⟨_, _, rfl⟩ | ⟨b, c, rest, _, _, _, hb, rfl⟩
 ·exact hx
 ·rw [ASt.set_ne]
  ·exact hx
  ·rintro rfl; rw [hb] at hx; cases hx
theorem OwnSl.fresh {σ0 σ : ASt} {x : Nat} {v : AV} {xs : List AV} {s : Nat} (h : OwnSl σ0 σ v xs s) (hx : σ x = none) : σ0 x = none := by
 cases hr : σ0 x with
 | none => rfl
 | some r => rw [h.at hr] at hx; cases hx
theorem OwnSl.add {σ0 σ : ASt} {d : Nat} {r : Option Role} {v : AV} {xs : List AV} {s : Nat} (h : OwnSl σ0 σ v xs s) (hd : σ d = none) : OwnSl (σ0.set d r) (σ.set d r) v xs s := by
 rcases h with ⟨h1, h2, rfl⟩ | ⟨b, c, rest, h1, h2, h3, h4, rfl⟩
 ·exact .inl ⟨h1, h2, rfl⟩
 ·obtain ⟨h5, h6, h7⟩ := set_none hd
  exact .inr ⟨b, c, rest, h1, h2, h3, by rw [ASt.set_ne h6]; exact h4, set_swap h6⟩
theorem OwnSl.less {σ0 σ : ASt} {e : Nat} {E : Role} {v : AV} {xs : List AV} {s : Nat} (h : OwnSl (σ0.set e (some E)) σ v xs s) (he : σ0 e = none) : ∃ σ', Drop σ σ' ∧ OwnSl σ0 σ' v xs s := by
 rcases h with ⟨h1, h2, rfl⟩ | ⟨b, c, rest, h1, h2, h3, h4, rfl⟩
 ·exact ⟨σ0, Drop.set he, .inl ⟨h1, h2, rfl⟩⟩
 ·obtain ⟨h5, h6, h7⟩ := set_none h4
  refine ⟨σ0.set b (some (.obj (xs.flatMap AV.cells ++ rest))), ?_, .inr ⟨b, c, rest, h1, h2, h3, h7, rfl⟩⟩
  rw [set_swap h6]
  exact Drop.set (by rw [ASt.set_ne h6]; exact he)
theorem OwnSl.fz {σ0 σ σ' : ASt} {v : AV} {xs : List AV} {s : Nat} (h : OwnSl σ0 σ v xs s) (hx : ∀ x ∈ xs, x.cells.length = s) (hn : ∀ b, σ0 b = none → σ' b = none) : Fz σ σ' v (.sl .shr xs) := by
 rcases h with ⟨rfl, rfl, rfl⟩ | ⟨b, c, rest, rfl, h2, h3, h4, rfl⟩
 ·exact .sl _ _
 ·have hxl : (xs.flatMap AV.cells).length = xs.length * s := lens_flat hx
  refine .msl 0 _ c s xs (ASt.set_same _ _ _) (hn _ h4) rfl h2 hx ?_
  rw [List.drop_zero, ← hxl, List.take_left]
end Go.A
namespace Go.A
open Go.Proofs Go.Lib
mutual
def Nd.same : Nd → Nd → Bool
 | .mk o n s a b ks, .mk o' n' s' a' b' ks' => decide (o = o') && decide (n = n') && decide (s = s') && decide (a = a') && decide (b = b') && Nd.sames ks ks'
def Nd.sames : List Nd → List Nd → Bool
 | [], [] => true
 | [], _ :: _ => false
 | _ :: _, [] => false
 | x :: xs, y :: ys => Nd.same x y && Nd.sames xs ys
end
mutual
theorem Nd.same_eq : ∀ (x y : Nd), Nd.same x y = true → x = y
 | .mk o n s a b ks, .mk o' n' s' a' b' ks', h => by
   rw [Nd.same] at h
   simp only [Bool.and_eq_true, decide_eq_true_eq] at h
   obtain ⟨⟨⟨⟨⟨rfl, rfl⟩, rfl⟩, rfl⟩, rfl⟩, h⟩ := h
   rw [Nd.sames_eq ks ks' h]
theorem Nd.sames_eq : ∀ (xs ys : List Nd), Nd.sames xs ys = true → xs = ys
 | [], [], _ => rfl
 | [], _ :: _, h => by cases h
 | _ :: _, [], h => by cases h
 | x :: xs, y :: ys, h => by
   rw [Nd.sames, Bool.and_eq_true] at h
   rw [Nd.same_eq x y h.1, Nd.sames_eq xs ys h.2]
end
mutual
theorem Nd.same_refl : ∀ x : Nd, Nd.same x x = true
 | .mk o n s a b ks => by rw [Nd.same, Nd.sames_refl ks]; simp
theorem Nd.sames_refl : ∀ xs : List Nd, Nd.sames xs xs = true
 | [] => rfl
 | x :: xs => by rw [Nd.sames, Nd.same_refl x, Nd.sames_refl xs]; rfl
end
theorem Nd.sames_len : ∀ {xs ys : List Nd}, Nd.sames xs ys = true → xs.length = ys.length := fun h => by rw [Nd.sames_eq _ _ h]
theorem Nd.sames_get {xs ys : List Nd} {i : Nat} {x y : Nd} (hx : xs[i]? = some x) (hy : ys[i]? = some y) (h : Nd.sames xs ys = true) : Nd.same x y = true := by
 rw [Nd.sames_eq _ _ h, hy] at hx
 injection hx with hx
 rw [hx]; exact Nd.same_refl _
theorem Nd.sames_all : ∀ {xs ys : List Nd}, xs.length = ys.length → (∀ (i : Nat) x y, xs[i]? = some x → ys[i]? = some y → Nd.same x y = true) → Nd.sames xs ys = true
 | [], [], _, _ => rfl
 | [], _ :: _, h, _ => by simp at h
 | _ :: _, [], h, _ => by simp at h
 | x :: xs, y :: ys, h, hs => by
   rw [Nd.sames, hs 0 x y rfl rfl, Nd.sames_all (by simpa using h) fun i u v hu hv => hs (i + 1) u v (by simpa using hu) (by simpa using hv)]
   rfl
theorem equal_ok (xs ys : List Nd) (hl : xs.length ≤ 1000000000 ∧ ys.length ≤ 1000000000) (ih : ∀ x ∈ xs, ∀ y ∈ ys, Pure Tryz.prog 9 [x.av, y.av] (.bool (Nd.same x y))) :
  Pure Tryz.prog 18 [.sl .shr (xs.map Nd.av), .sl .shr (ys.map Nd.av), .func (.func 9) [] []] (.bool (Nd.sames xs ys)) := by
 intro σ
 refine a18 (by simp) ?_
 by_cases hne : xs.length = ys.length
 ·have hne' : ¬ ((xs.length : Int) ≠ ys.length) := by omega
  have hne2 : (xs.length : Int) = ys.length := by omega
  simp (disch := first | assumption | omega) only [go_sem, reduceCtorEq, Nat.reduceEqDiff, ↓reduceIte, hne2]
  refine wp_loop_by (fun (i : Nat) a1 s2 => (i ≤ xs.length ∧ ∀ k x y, k < i → xs[k]? = some x → ys[k]? = some y → Nd.same x y = true) ∧ (a1 1 = .sl .shr (ys.map Nd.av) ∧ a1 2 = .func (.func 9) [] [] ∧ a1 15 = .sl .shr (xs.map Nd.av) ∧ a1 16 = .int .i64 xs.length ∧ a1 17 = .int .i64 i) ∧ s2 = σ) (fun i => xs.length - i) 0 (Dr.now ⟨⟨Nat.zero_le _, fun k x y h => by omega⟩, ?_, rfl⟩) ?_
  ·simp (disch := first | assumption | omega) only [go_sem, Nat.reduceEqDiff, ↓reduceIte, hne2]
  rintro i a1 s2 ⟨⟨hi, hall⟩, hf, rfl⟩
  by_cases hlt : i < xs.length
  ·have hlt' : (i : Int) < xs.length := by omega
   have hx : xs[i]? = some (xs[i]'hlt) := List.getElem?_eq_getElem hlt
   have hy : ys[i]? = some (ys[i]'(by omega)) := List.getElem?_eq_getElem (by omega)
   have hih := ih _ (List.getElem_mem hlt) _ (List.getElem_mem (h := by omega) : ys[i]'(by omega) ∈ ys)
   obtain ⟨x, hxe⟩ : ∃ x, xs[i]'hlt = x := ⟨_, rfl⟩
   obtain ⟨y, hye⟩ : ∃ y, ys[i]'(by omega) = y := ⟨_, rfl⟩
   rw [hxe] at hx hih
   rw [hye] at hy hih
   have hmx := Nd.get hx
   have hmy := Nd.get hy
   obtain ⟨r, hr⟩ : ∃ r, Nd.same x y = r := ⟨_, rfl⟩
   rw [hr] at hih
   obtain ⟨xo, xm, xs', xa, xb, xk⟩ := x
   obtain ⟨yo, ym, ys', ya, yb, yk⟩ := y
   rw [Nd.av_cs] at hmx
   rw [Nd.av_cs] at hmy
   rw [Nd.av_cs, Nd.av_cs] at hih
   generalize xk.map Nd.av = XK at *
   generalize yk.map Nd.av = YK at *
   generalize hXL : xs.map Nd.av = XL at *
   generalize hYL : ys.map Nd.av = YL at *
   have hok : okFn Tryz.prog 9 = true := by kernel_rfl
   simp (disch := first | assumption | omega) only [go_sem, Nat.reduceEqDiff, Nat.reduceLeDiff, ↓reduceIte, hf, hlt', hmx]
   refine allocC_by fun d hd => ?_
   have hd0 := hd
   simp (disch := first | assumption | omega) only [go_sem, Nat.reduceEqDiff, Nat.reduceAdd, Nat.reduceLeDiff, ↓reduceIte, hf, hmy, ASt.set_set]
   refine allocC_by fun e he => ?_
   have he0 := he
   repeat (with_reducible replace he := set_none he; obtain ⟨_, _, he⟩ := he)
   simp (disch := first | assumption | omega) only [go_sem, Nat.reduceEqDiff, Nat.reduceAdd, Nat.reduceLeDiff, ↓reduceIte, hf, ASt.set_set]
   refine ⟨hok, hih.use ?_⟩
   cases r with
   | true =>
     simp (disch := first | assumption | omega) only [go_sem, Nat.reduceEqDiff, ↓reduceIte, hf]
     refine ⟨i + 1, by dsimp only; omega, Dr.drop ((Drop.set hd).off (by assumption)) ⟨⟨by omega, fun k u v hk hu hv => ?_⟩, ?_, rfl⟩⟩
     ·by_cases hki : k = i
      ·subst hki
       rw [hx] at hu; rw [hy] at hv
       injection hu with hu; injection hv with hv
       subst hu hv; exact hr
      ·exact hall k u v (by omega) hu hv
     ·simp (disch := first | assumption | omega) only [go_sem, Nat.reduceEqDiff, ↓reduceIte, hf]
   | false =>
     have hfin : Nd.sames xs ys = false := by
      cases h : Nd.sames xs ys with
      | false => rfl
      | true => rw [Nd.sames_get hx hy h] at hr; cases hr
     simp (disch := first | assumption | omega) only [go_sem, ↓reduceIte]
     exact retC_by ((Drop.set hd).off (by assumption)) (.refl _) ⟨by rw [hfin]; rfl, rfl⟩
  ·have hlt' : ¬ (i : Int) < xs.length := by omega
   have hfin : Nd.sames xs ys = true := Nd.sames_all hne fun k u v hu hv => hall k u v (by have := (List.getElem?_eq_some_iff.1 hu).1; omega) hu hv
   simp (disch := first | assumption | omega) only [go_sem, ↓reduceIte, hf, hlt']
   exact retC_by (Drop.refl _) (.refl _) ⟨by rw [hfin]; rfl, rfl⟩
 ·have hne2 : ¬ (xs.length : Int) = ys.length := by omega
  have hfin : Nd.sames xs ys = false := by
   cases h : Nd.sames xs ys with
   | false => rfl
   | true => exact absurd (Nd.sames_len h) hne
  simp (disch := first | assumption | omega) only [go_sem, reduceCtorEq, Nat.reduceEqDiff, ↓reduceIte, hne2]
  exact retC_by (Drop.refl _) (.refl _) ⟨by rw [hfin]; rfl, rfl⟩
theorem ref_ne {a b : Ref} (h : a ≠ b) : (decide (a.row = b.row) && (decide (a.col = b.col) && (decide (a.absRow = b.absRow) && decide (a.absCol = b.absCol)))) = false := by
 obtain ⟨a1, a2, a3, a4⟩ := a
 obtain ⟨b1, b2, b3, b4⟩ := b
 cases hd : (decide (a1 = b1) && (decide (a2 = b2) && (decide (a3 = b3) && decide (a4 = b4)))) with
 | false => rfl
 | true =>
   simp only [Bool.and_eq_true, decide_eq_true_eq] at hd
   obtain ⟨rfl, rfl, rfl, rfl⟩ := hd
   exact absurd rfl h
theorem esame_le : ∀ (k : Nat) (x y : Nd), x.size ≤ k → x.size ≤ 1000000000 → y.size ≤ 1000000000 → Pure Tryz.prog 9 [x.av, y.av] (.bool (Nd.same x y))
 | 0, x, y, hk, _, _ => by have := x.size_pos; omega
 | k + 1, x, y, hk, hx, hy => by
   intro σ
   obtain ⟨o, n, s, a, b, ks⟩ := x
   obtain ⟨o', n', s', a', b', ks'⟩ := y
   rw [Nd.size] at hk hx hy
   have l1 := sizes_len ks
   have l2 := sizes_len ks'
   have hE := equal_ok ks ks' ⟨by omega, by omega⟩ fun u hu v hv => by
    have h1 := Nd.size_kid hu
    have h2 := Nd.size_kid hv
    exact esame_le k u v (by omega) (by omega) (by omega)
   rw [Nd.av_cs, Nd.av_cs, Nd.same]
   generalize Nd.sames ks ks' = r at *
   generalize ks.map Nd.av = L at *
   generalize ks'.map Nd.av = L' at *
   refine a9 (by simp) ?_
   simp (disch := first | assumption | omega) only [go_sem]
   refine boxC_by rfl fun c hc => ?_
   simp (disch := first | assumption | omega) only [go_sem, Nat.reduceEqDiff, ↓reduceIte]
   refine boxC_by rfl fun d hd => ?_
   have hd0 := hd
   repeat (with_reducible replace hd := set_none hd; obtain ⟨_, _, hd⟩ := hd)
   have hD : ∀ r r' : Option Role, Drop ((σ.set c r).set d r') σ := fun r r' => (Drop.set hc).off (by assumption)
   by_cases h1 : o = o'
   ·by_cases h2 : n = n'
    ·by_cases h3 : s = s'
     ·by_cases h4 : a = a'
      ·by_cases h5 : b = b'
       ·subst h1 h2 h3 h4 h5
        simp (disch := first | assumption | omega) only [go_sem, Nat.reduceEqDiff, Nat.reduceAdd, Nat.reduceLeDiff, ↓reduceIte, Bool.true_and, eq_self]
        refine hE.use ?_
        simp (disch := first | assumption | omega) only [go_sem, Nat.reduceEqDiff, ↓reduceIte, eq_self]
        refine retC_by (hD _ _) (.refl _) ⟨?_, rfl⟩
        first | rfl | (show AV.bool _ = AV.bool _; simp)
       ·have h5' := ref_ne h5
        subst h1 h2 h3 h4
        simp (disch := first | assumption | omega) only [go_sem, Nat.reduceEqDiff, Nat.reduceAdd, Nat.reduceLeDiff, ↓reduceIte, Bool.true_and, Bool.false_and, Bool.and_false, eq_self, h5']
        refine retC_by (hD _ _) (.refl _) ⟨?_, rfl⟩
        first | rfl | (show AV.bool _ = AV.bool _; simp [h5])
      ·have h4' := ref_ne h4
       subst h1 h2 h3
       simp (disch := first | assumption | omega) only [go_sem, Nat.reduceEqDiff, Nat.reduceAdd, Nat.reduceLeDiff, ↓reduceIte, Bool.true_and, Bool.false_and, Bool.and_false, eq_self, h4']
       refine retC_by (hD _ _) (.refl _) ⟨?_, rfl⟩
       first | rfl | (show AV.bool _ = AV.bool _; simp [h4])
     ·subst h1 h2
      simp (disch := first | assumption | omega) only [go_sem, Nat.reduceEqDiff, ↓reduceIte, Bool.true_and, Bool.false_and, Bool.and_false, eq_self, h3]
      refine retC_by (hD _ _) (.refl _) ⟨?_, rfl⟩
      first | rfl | (show AV.bool _ = AV.bool _; simp [h3])
    ·subst h1
     simp (disch := first | assumption | omega) only [go_sem, Nat.reduceEqDiff, ↓reduceIte, Bool.false_and, Bool.and_false, eq_self, h2]
     refine retC_by (hD _ _) (.refl _) ⟨?_, rfl⟩
     first | rfl | (show AV.bool _ = AV.bool _; simp [h2])
   ·simp (disch := first | assumption | omega) only [go_sem, Nat.reduceEqDiff, ↓reduceIte, Bool.false_and, h1]
    refine retC_by (hD _ _) (.refl _) ⟨?_, rfl⟩
    first | rfl | (show AV.bool _ = AV.bool _; simp [h1])
theorem esame_ok (x y : Nd) (hx : x.size ≤ 1000000000) (hy : y.size ≤ 1000000000) : Pure Tryz.prog 9 [x.av, y.av] (.bool (Nd.same x y)) := esame_le x.size x y (Nat.le_refl _) hx hy
end Go.A
namespace Go.A
open Go.Proofs Go.Lib
structure Rc where
 row : Int
 col : Int
 rows : Int
 cols : Int
 deriving DecidableEq, Inhabited
end Go.A
namespace Go.A
open Go.Proofs
/-! 19: tabular/tabularlaw12.grow -/
def c19_0 : ACode := .ops [
 ⟨some 4, none, .e (.alloc [(.int .i64 0), (.int .i64 0), (.str []), (.int .i64 0), (.int .i64 0), (.bool false), (.bool false), (.int .i64 0), (.int .i64 0), (.bool false), (.bool false), (.sl .full [])]), []⟩,
 ⟨some 5, none, .q (.mv (.v (.int .i64 0))), []⟩]
def c19_1 : ACode := .ops [
 ⟨some 14, none, .q (.mv (.t 1)), []⟩,
 ⟨some 15, none, .q (.mv (.t 0)), []⟩,
 ⟨some 16, none, .q (.len (.t 15)), []⟩,
 ⟨some 17, none, .q (.bin .geq (.t 14) (.t 16)), []⟩]
def c19_2 : ACode := .ops [
 ⟨some 18, none, .q (.build [(.int .i64 0), (.int .i64 0), (.str []), (.int .i64 0), (.int .i64 0), (.bool false), (.bool false), (.int .i64 0), (.int .i64 0), (.bool false), (.bool false), (.sl .full [])] [(0, 1, (.v (.int .i64 1)))]), []⟩,
 ⟨some 19, none, .q (.mv (.t 1)), []⟩,
 ⟨none, none, .e (.store 12 (.t 4) (.t 18)), []⟩,
 ⟨some 5, none, .q (.mv (.t 19)), []⟩]
def c19_3 : ACode := .seq c19_2 .ret
def c19_4 : ACode := .cond (.t 17) c19_3 .skip
def c19_5 : ACode := .seq c19_1 c19_4
def c19_6 : ACode := .ops [
 ⟨some 20, none, .q (.mv (.t 0)), []⟩,
 ⟨some 21, none, .q (.mv (.t 1)), []⟩,
 ⟨some 22, none, .q (.ia 11 (.t 20) (.t 21)), []⟩,
 ⟨some 23, none, .q (.ld (some 11) (.t 22)), []⟩,
 ⟨some 6, none, .e (.alloc [(.int .i64 0), (.int .i64 0), (.str []), (.int .i64 0), (.int .i64 0), (.bool false), (.bool false), (.int .i64 0), (.int .i64 0), (.bool false), (.bool false)]), []⟩,
 ⟨none, none, .e (.store 11 (.t 6) (.t 23)), []⟩]
def c19_7 : ACode := .ops [
 ⟨some 24, none, .q (.mv (.t 1)), []⟩,
 ⟨some 25, none, .q (.bin .add (.t 24) (.v (.int .i64 1))), []⟩,
 ⟨some 1, none, .q (.mv (.t 25)), []⟩]
def c19_8 : ACode := .ops [
 ⟨some 26, none, .q (.fa 0 (.t 6)), []⟩,
 ⟨some 27, none, .q (.ld none (.t 26)), []⟩,
 ⟨some 28, none, .q (.bin .rem (.t 27) (.v (.int .i64 23))), []⟩,
 ⟨some 29, none, .q (.bin .add (.t 28) (.v (.int .i64 23))), []⟩,
 ⟨some 30, none, .q (.bin .rem (.t 29) (.v (.int .i64 23))), []⟩,
 ⟨some 31, none, .q (.bin .add (.v (.int .i64 1)) (.t 30)), []⟩,
 ⟨some 32, none, .q (.build [(.int .i64 0), (.int .i64 0), (.str []), (.int .i64 0), (.int .i64 0), (.bool false), (.bool false), (.int .i64 0), (.int .i64 0), (.bool false), (.bool false), (.sl .full [])] [(0, 1, (.t 31))]), []⟩,
 ⟨some 7, none, .e (.alloc [(.int .i64 0), (.int .i64 0), (.str []), (.int .i64 0), (.int .i64 0), (.bool false), (.bool false), (.int .i64 0), (.int .i64 0), (.bool false), (.bool false), (.sl .full [])]), []⟩,
 ⟨none, none, .e (.store 12 (.t 7) (.t 32)), []⟩]
def c19_9 : ACode := .ops [
 ⟨some 8, none, .q (.mv (.v (.int .i64 0))), []⟩]
def c19_10 : ACode := .ops [
 ⟨some 33, none, .q (.fa 1 (.t 6)), []⟩,
 ⟨some 34, none, .q (.ld none (.t 33)), []⟩,
 ⟨some 35, none, .q (.bin .rem (.t 34) (.v (.int .i64 100000))), []⟩,
 ⟨some 36, none, .q (.bin .add (.t 35) (.v (.int .i64 100000))), []⟩,
 ⟨some 37, none, .q (.bin .rem (.t 36) (.v (.int .i64 100000))), []⟩,
 ⟨some 9, none, .q (.mv (.t 37)), []⟩]
def c19_11 : ACode := .ops [
 ⟨some 38, none, .q (.fa 0 (.t 7)), []⟩,
 ⟨some 39, none, .q (.ld none (.t 38)), []⟩]
def c19_12 : ACode := .ops [
 ⟨some 41, none, .q (.bin .eql (.t 39) (.v (.int .i64 1))), []⟩,
 ⟨some 40, none, .q (.mv (.t 41)), []⟩]
def c19_13 : ACode := .ops [
 ⟨some 42, none, .q (.mv (.t 9)), []⟩,
 ⟨some 43, none, .q (.fa 1 (.t 7)), []⟩,
 ⟨none, none, .e (.store 1 (.t 43) (.t 42)), []⟩]
def c19_14 : ACode := .ops [
 ⟨some 45, none, .q (.bin .eql (.t 39) (.v (.int .i64 3))), []⟩,
 ⟨some 44, none, .q (.mv (.t 45)), []⟩]
def c19_15 : ACode := .ops [
 ⟨some 46, none, .q (.mv (.t 9)), []⟩,
 ⟨some 47, none, .q (.bin .rem (.t 46) (.v (.int .i64 2))), []⟩,
 ⟨some 48, none, .q (.fa 1 (.t 7)), []⟩,
 ⟨none, none, .e (.store 1 (.t 48) (.t 47)), []⟩]
def c19_16 : ACode := .ops [
 ⟨some 50, none, .q (.bin .eql (.t 39) (.v (.int .i64 4))), []⟩,
 ⟨some 49, none, .q (.mv (.t 50)), []⟩]
def c19_17 : ACode := .ops [
 ⟨some 51, none, .q (.mv (.t 9)), []⟩,
 ⟨some 52, none, .q (.bin .rem (.t 51) (.v (.int .i64 7))), []⟩,
 ⟨some 53, none, .q (.bin .add (.v (.int .i64 1)) (.t 52)), []⟩,
 ⟨some 54, none, .q (.bin .mul (.t 53) (.v (.int .i64 10000))), []⟩,
 ⟨some 55, none, .q (.fa 1 (.t 7)), []⟩,
 ⟨none, none, .e (.store 1 (.t 55) (.t 54)), []⟩]
def c19_18 : ACode := .ops [
 ⟨some 57, none, .q (.bin .eql (.t 39) (.v (.int .i64 2))), []⟩,
 ⟨some 56, none, .q (.mv (.t 57)), []⟩]
def c19_19 : ACode := .ops [
 ⟨some 59, none, .q (.fa 2 (.t 6)), []⟩,
 ⟨some 60, none, .q (.ld none (.t 59)), []⟩,
 ⟨some 61, none, .e (.call 6 [(.t 60), (.v (.int .i64 20))]), []⟩,
 ⟨some 62, none, .e (.call 36 [(.t 61)]), []⟩,
 ⟨some 58, none, .q (.mv (.t 62)), []⟩,
 ⟨some 63, none, .q (.ext 0 (.t 58)), []⟩,
 ⟨some 64, none, .q (.ext 1 (.t 58)), []⟩,
 ⟨some 10, none, .q (.mv (.t 63)), []⟩,
 ⟨some 11, none, .q (.mv (.t 64)), []⟩]
def c19_20 : ACode := .ops [
 ⟨some 65, none, .q (.mv (.t 11)), []⟩]
def c19_21 : ACode := .ops [
 ⟨some 66, none, .q (.fa 2 (.t 6)), []⟩,
 ⟨some 67, none, .q (.ld none (.t 66)), []⟩,
 ⟨some 68, none, .e (.call 6 [(.t 67), (.v (.int .i64 20))]), []⟩,
 ⟨some 69, none, .q (.fa 2 (.t 7)), []⟩,
 ⟨none, none, .e (.store 1 (.t 69) (.t 68)), []⟩]
def c19_22 : ACode := .cond (.t 65) c19_21 .skip
def c19_23 : ACode := .seq c19_20 c19_22
def c19_24 : ACode := .seq c19_19 c19_23
def c19_25 : ACode := .ops [
 ⟨some 71, none, .q (.bin .eql (.t 39) (.v (.int .i64 5))), []⟩,
 ⟨some 70, none, .q (.mv (.t 71)), []⟩]
def c19_26 : ACode := .ops [
 ⟨some 72, none, .q (.fa 3 (.t 6)), []⟩,
 ⟨some 73, none, .q (.ld (some 4) (.t 72)), []⟩,
 ⟨some 74, none, .e (.call 37 [(.t 73)]), []⟩,
 ⟨some 75, none, .q (.fa 3 (.t 7)), []⟩,
 ⟨none, none, .e (.store 4 (.t 75) (.t 74)), []⟩]
def c19_27 : ACode := .ops [
 ⟨some 77, none, .q (.bin .eql (.t 39) (.v (.int .i64 6))), []⟩,
 ⟨some 76, none, .q (.mv (.t 77)), []⟩]
def c19_28 : ACode := .ops [
 ⟨some 78, none, .q (.fa 3 (.t 6)), []⟩,
 ⟨some 79, none, .q (.ld (some 4) (.t 78)), []⟩,
 ⟨some 80, none, .e (.call 37 [(.t 79)]), []⟩,
 ⟨some 81, none, .q (.fa 3 (.t 7)), []⟩,
 ⟨none, none, .e (.store 4 (.t 81) (.t 80)), []⟩]
def c19_29 : ACode := .ops [
 ⟨some 82, none, .q (.fa 7 (.t 6)), []⟩,
 ⟨some 83, none, .q (.ld (some 4) (.t 82)), []⟩,
 ⟨some 84, none, .e (.call 37 [(.t 83)]), []⟩,
 ⟨some 85, none, .q (.fa 7 (.t 7)), []⟩,
 ⟨none, none, .e (.store 4 (.t 85) (.t 84)), []⟩]
def c19_30 : ACode := .seq c19_28 c19_29
def c19_31 : ACode := .ops [
 ⟨some 87, none, .q (.bin .eql (.t 39) (.v (.int .i64 7))), []⟩,
 ⟨some 86, none, .q (.mv (.t 87)), []⟩]
def c19_32 : ACode := .ops [
 ⟨some 88, none, .q (.bin .eql (.t 39) (.v (.int .i64 8))), []⟩,
 ⟨some 86, none, .q (.mv (.t 88)), []⟩]
def c19_33 : ACode := .ops [
 ⟨some 89, none, .q (.bin .eql (.t 39) (.v (.int .i64 9))), []⟩,
 ⟨some 86, none, .q (.mv (.t 89)), []⟩]
def c19_34 : ACode := .cond (.t 86) .skip c19_33
def c19_35 : ACode := .seq c19_32 c19_34
def c19_36 : ACode := .cond (.t 86) .skip c19_35
def c19_37 : ACode := .seq c19_31 c19_36
def c19_38 : ACode := .ops [
 ⟨some 8, none, .q (.mv (.v (.int .i64 1))), []⟩]
def c19_39 : ACode := .ops [
 ⟨some 91, none, .q (.bin .eql (.t 39) (.v (.int .i64 23))), []⟩,
 ⟨some 90, none, .q (.mv (.t 91)), []⟩]
def c19_40 : ACode := .ops [
 ⟨some 92, none, .q (.build [(.int .i64 0), (.int .i64 0), (.str []), (.int .i64 0), (.int .i64 0), (.bool false), (.bool false), (.int .i64 0), (.int .i64 0), (.bool false), (.bool false), (.sl .full [])] [(0, 1, (.v (.int .i64 3)))]), []⟩,
 ⟨none, none, .e (.store 12 (.t 7) (.t 92)), []⟩]
def c19_41 : ACode := .ops [
 ⟨some 94, none, .q (.bin .eql (.t 39) (.v (.int .i64 22))), []⟩,
 ⟨some 93, none, .q (.mv (.t 94)), []⟩]
def c19_42 : ACode := .ops [
 ⟨some 95, none, .q (.bsl 1 [(.v (.str [83, 85, 77])), (.v (.str [73, 70])), (.v (.str [88, 46, 89])), (.v (.str [95, 65]))]), []⟩,
 ⟨some 96, none, .q (.mv (.t 9)), []⟩,
 ⟨some 97, none, .q (.bin .rem (.t 96) (.v (.int .i64 4))), []⟩,
 ⟨some 98, none, .q (.ia 1 (.t 95) (.t 97)), []⟩,
 ⟨some 99, none, .q (.ld none (.t 98)), []⟩,
 ⟨some 100, none, .q (.fa 2 (.t 7)), []⟩,
 ⟨none, none, .e (.store 1 (.t 100) (.t 99)), []⟩]
def c19_43 : ACode := .ops [
 ⟨some 101, none, .q (.mv (.t 9)), []⟩,
 ⟨some 102, none, .q (.bin .quo (.t 101) (.v (.int .i64 4))), []⟩,
 ⟨some 103, none, .q (.bin .rem (.t 102) (.v (.int .i64 4))), []⟩,
 ⟨some 8, none, .q (.mv (.t 103)), []⟩]
def c19_44 : ACode := .seq c19_42 c19_43
def c19_45 : ACode := .ops [
 ⟨some 8, none, .q (.mv (.v (.int .i64 2))), []⟩]
def c19_46 : ACode := .cond (.t 93) c19_44 c19_45
def c19_47 : ACode := .seq c19_41 c19_46
def c19_48 : ACode := .cond (.t 90) c19_40 c19_47
def c19_49 : ACode := .seq c19_39 c19_48
def c19_50 : ACode := .cond (.t 86) c19_38 c19_49
def c19_51 : ACode := .seq c19_37 c19_50
def c19_52 : ACode := .cond (.t 76) c19_30 c19_51
def c19_53 : ACode := .seq c19_27 c19_52
def c19_54 : ACode := .cond (.t 70) c19_26 c19_53
def c19_55 : ACode := .seq c19_25 c19_54
def c19_56 : ACode := .cond (.t 56) c19_24 c19_55
def c19_57 : ACode := .seq c19_18 c19_56
def c19_58 : ACode := .cond (.t 49) c19_17 c19_57
def c19_59 : ACode := .seq c19_16 c19_58
def c19_60 : ACode := .cond (.t 44) c19_15 c19_59
def c19_61 : ACode := .seq c19_14 c19_60
def c19_62 : ACode := .cond (.t 40) c19_13 c19_61
def c19_63 : ACode := .seq c19_12 c19_62
def c19_64 : ACode := .block 0 c19_63
def c19_65 : ACode := .seq c19_11 c19_64
def c19_66 : ACode := .ops [
 ⟨some 104, none, .q (.mv (.t 8)), []⟩,
 ⟨some 105, none, .q (.bin .gtr (.t 104) (.v (.int .i64 0))), []⟩]
def c19_67 : ACode := .cond (.t 105) .skip (.exit 1)
def c19_68 : ACode := .seq c19_66 c19_67
def c19_69 : ACode := .ops [
 ⟨some 109, none, .q (.mv (.t 0)), []⟩,
 ⟨some 110, none, .q (.mv (.t 1)), []⟩,
 ⟨some 111, none, .e (.call 19 [(.t 109), (.t 110)]), []⟩,
 ⟨some 108, none, .q (.mv (.t 111)), []⟩,
 ⟨some 112, none, .q (.ext 0 (.t 108)), []⟩,
 ⟨some 113, none, .q (.ext 1 (.t 108)), []⟩,
 ⟨some 12, none, .e (.alloc [(.int .i64 0), (.int .i64 0), (.str []), (.int .i64 0), (.int .i64 0), (.bool false), (.bool false), (.int .i64 0), (.int .i64 0), (.bool false), (.bool false), (.sl .full [])]), []⟩,
 ⟨none, none, .e (.store 12 (.t 12) (.t 112)), []⟩,
 ⟨some 13, none, .q (.mv (.t 113)), []⟩]
def c19_70 : ACode := .ops [
 ⟨some 114, none, .q (.mv (.t 13)), []⟩,
 ⟨some 1, none, .q (.mv (.t 114)), []⟩]
def c19_71 : ACode := .ops [
 ⟨some 115, none, .q (.fa 11 (.t 7)), []⟩,
 ⟨some 116, none, .q (.ld none (.t 115)), []⟩,
 ⟨some 117, none, .q (.ld (some 12) (.t 12)), []⟩,
 ⟨some 118, none, .q (.bsl 12 [(.t 117)]), []⟩,
 ⟨some 119, none, .e (.app 27 12 104 [(.int .i64 0), (.int .i64 0), (.str []), (.int .i64 0), (.int .i64 0), (.bool false), (.bool false), (.int .i64 0), (.int .i64 0), (.bool false), (.bool false), (.sl .full [])] (.t 116) (.t 118)), []⟩,
 ⟨some 120, none, .q (.fa 11 (.t 7)), []⟩,
 ⟨none, none, .e (.store 1 (.t 120) (.t 119)), []⟩]
def c19_72 : ACode := .seq c19_70 c19_71
def c19_73 : ACode := .seq c19_69 c19_72
def c19_74 : ACode := .block 2 c19_73
def c19_75 : ACode := .ops [
 ⟨some 106, none, .q (.mv (.t 8)), []⟩,
 ⟨some 107, none, .q (.bin .sub (.t 106) (.v (.int .i64 1))), []⟩,
 ⟨some 8, none, .q (.mv (.t 107)), []⟩]
def c19_76 : ACode := .seq c19_74 c19_75
def c19_77 : ACode := .seq c19_68 c19_76
def c19_78 : ACode := .loop c19_77
def c19_79 : ACode := .block 1 c19_78
def c19_80 : ACode := .ops [
 ⟨some 121, none, .q (.fa 0 (.t 7)), []⟩,
 ⟨some 122, none, .q (.ld none (.t 121)), []⟩,
 ⟨some 123, none, .q (.bin .eql (.t 122) (.v (.int .i64 22))), []⟩,
 ⟨some 124, none, .q (.mv (.t 123)), []⟩,
 ⟨some 125, some (124, true), .q (.fa 11 (.t 7)), []⟩,
 ⟨some 126, some (124, true), .q (.ld none (.t 125)), []⟩,
 ⟨some 127, some (124, true), .q (.len (.t 126)), []⟩,
 ⟨some 128, some (124, true), .q (.bin .gtr (.t 127) (.v (.int .i64 1))), []⟩,
 ⟨some 129, none, .q (.pick (.t 124) (.t 128) (.v (.bool false))), []⟩,
 ⟨some 130, none, .q (.mv (.t 129)), []⟩,
 ⟨some 131, some (130, true), .q (.mv (.t 9)), []⟩,
 ⟨some 132, some (130, true), .q (.bin .rem (.t 131) (.v (.int .i64 3))), []⟩,
 ⟨some 133, some (130, true), .q (.bin .eql (.t 132) (.v (.int .i64 0))), []⟩,
 ⟨some 134, none, .q (.pick (.t 130) (.t 133) (.v (.bool false))), []⟩]
def c19_81 : ACode := .ops [
 ⟨some 135, none, .q (.fa 11 (.t 7)), []⟩,
 ⟨some 136, none, .q (.ld none (.t 135)), []⟩,
 ⟨some 137, none, .q (.build [(.int .i64 0), (.int .i64 0), (.str []), (.int .i64 0), (.int .i64 0), (.bool false), (.bool false), (.int .i64 0), (.int .i64 0), (.bool false), (.bool false), (.sl .full [])] [(0, 1, (.v (.int .i64 23)))]), []⟩,
 ⟨some 138, none, .q (.ia 12 (.t 136) (.v (.int .i64 0))), []⟩,
 ⟨none, none, .e (.store 12 (.t 138) (.t 137)), []⟩]
def c19_82 : ACode := .cond (.t 134) c19_81 .skip
def c19_83 : ACode := .seq c19_80 c19_82
def c19_84 : ACode := .ops [
 ⟨some 139, none, .q (.ld (some 12) (.t 7)), []⟩,
 ⟨some 140, none, .q (.mv (.t 1)), []⟩,
 ⟨none, none, .e (.store 12 (.t 4) (.t 139)), []⟩,
 ⟨some 5, none, .q (.mv (.t 140)), []⟩]
def c19_85 : ACode := .seq c19_84 .ret
def c19_86 : ACode := .seq c19_83 c19_85
def c19_87 : ACode := .seq c19_79 c19_86
def c19_88 : ACode := .seq c19_65 c19_87
def c19_89 : ACode := .seq c19_10 c19_88
def c19_90 : ACode := .seq c19_9 c19_89
def c19_91 : ACode := .seq c19_8 c19_90
def c19_92 : ACode := .seq c19_7 c19_91
def c19_93 : ACode := .seq c19_6 c19_92
def c19_94 : ACode := .seq c19_5 c19_93
def c19_95 : ACode := .seq c19_0 c19_94
@[go_sem] def c19_0_wp := wp_of c19_0.eq_1
@[go_sem] def c19_1_wp := wp_of c19_1.eq_1
@[go_sem] def c19_2_wp := wp_of c19_2.eq_1
@[go_sem] def c19_3_wp := wp_of c19_3.eq_1
@[go_sem] def c19_4_wp := wp_of c19_4.eq_1
@[go_sem] def c19_5_wp := wp_of c19_5.eq_1
@[go_sem] def c19_6_wp := wp_of c19_6.eq_1
@[go_sem] def c19_7_wp := wp_of c19_7.eq_1
@[go_sem] def c19_8_wp := wp_of c19_8.eq_1
@[go_sem] def c19_9_wp := wp_of c19_9.eq_1
@[go_sem] def c19_10_wp := wp_of c19_10.eq_1
@[go_sem] def c19_11_wp := wp_of c19_11.eq_1
@[go_sem] def c19_12_wp := wp_of c19_12.eq_1
@[go_sem] def c19_13_wp := wp_of c19_13.eq_1
@[go_sem] def c19_14_wp := wp_of c19_14.eq_1
@[go_sem] def c19_15_wp := wp_of c19_15.eq_1
@[go_sem] def c19_16_wp := wp_of c19_16.eq_1
@[go_sem] def c19_17_wp := wp_of c19_17.eq_1
@[go_sem] def c19_18_wp := wp_of c19_18.eq_1
@[go_sem] def c19_19_wp := wp_of c19_19.eq_1
@[go_sem] def c19_20_wp := wp_of c19_20.eq_1
@[go_sem] def c19_21_wp := wp_of c19_21.eq_1
@[go_sem] def c19_22_wp := wp_of c19_22.eq_1
@[go_sem] def c19_23_wp := wp_of c19_23.eq_1
@[go_sem] def c19_24_wp := wp_of c19_24.eq_1
@[go_sem] def c19_25_wp := wp_of c19_25.eq_1
@[go_sem] def c19_26_wp := wp_of c19_26.eq_1
@[go_sem] def c19_27_wp := wp_of c19_27.eq_1
@[go_sem] def c19_28_wp := wp_of c19_28.eq_1
@[go_sem] def c19_29_wp := wp_of c19_29.eq_1
@[go_sem] def c19_30_wp := wp_of c19_30.eq_1
@[go_sem] def c19_31_wp := wp_of c19_31.eq_1
@[go_sem] def c19_32_wp := wp_of c19_32.eq_1
@[go_sem] def c19_33_wp := wp_of c19_33.eq_1
@[go_sem] def c19_34_wp := wp_of c19_34.eq_1
@[go_sem] def c19_35_wp := wp_of c19_35.eq_1
@[go_sem] def c19_36_wp := wp_of c19_36.eq_1
@[go_sem] def c19_37_wp := wp_of c19_37.eq_1
@[go_sem] def c19_38_wp := wp_of c19_38.eq_1
@[go_sem] def c19_39_wp := wp_of c19_39.eq_1
@[go_sem] def c19_40_wp := wp_of c19_40.eq_1
@[go_sem] def c19_41_wp := wp_of c19_41.eq_1
@[go_sem] def c19_42_wp := wp_of c19_42.eq_1
@[go_sem] def c19_43_wp := wp_of c19_43.eq_1
@[go_sem] def c19_44_wp := wp_of c19_44.eq_1
@[go_sem] def c19_45_wp := wp_of c19_45.eq_1
@[go_sem] def c19_46_wp := wp_of c19_46.eq_1
@[go_sem] def c19_47_wp := wp_of c19_47.eq_1
@[go_sem] def c19_48_wp := wp_of c19_48.eq_1
@[go_sem] def c19_49_wp := wp_of c19_49.eq_1
@[go_sem] def c19_50_wp := wp_of c19_50.eq_1
@[go_sem] def c19_51_wp := wp_of c19_51.eq_1
@[go_sem] def c19_52_wp := wp_of c19_52.eq_1
@[go_sem] def c19_53_wp := wp_of c19_53.eq_1
@[go_sem] def c19_54_wp := wp_of c19_54.eq_1
@[go_sem] def c19_55_wp := wp_of c19_55.eq_1
@[go_sem] def c19_56_wp := wp_of c19_56.eq_1
@[go_sem] def c19_57_wp := wp_of c19_57.eq_1
@[go_sem] def c19_58_wp := wp_of c19_58.eq_1
@[go_sem] def c19_59_wp := wp_of c19_59.eq_1
@[go_sem] def c19_60_wp := wp_of c19_60.eq_1
@[go_sem] def c19_61_wp := wp_of c19_61.eq_1
@[go_sem] def c19_62_wp := wp_of c19_62.eq_1
@[go_sem] def c19_63_wp := wp_of c19_63.eq_1
@[go_sem] def c19_64_wp := wp_of c19_64.eq_1
@[go_sem] def c19_65_wp := wp_of c19_65.eq_1
@[go_sem] def c19_66_wp := wp_of c19_66.eq_1
@[go_sem] def c19_67_wp := wp_of c19_67.eq_1
@[go_sem] def c19_68_wp := wp_of c19_68.eq_1
@[go_sem] def c19_69_wp := wp_of c19_69.eq_1
@[go_sem] def c19_70_wp := wp_of c19_70.eq_1
@[go_sem] def c19_71_wp := wp_of c19_71.eq_1
@[go_sem] def c19_72_wp := wp_of c19_72.eq_1
@[go_sem] def c19_73_wp := wp_of c19_73.eq_1
@[go_sem] def c19_74_wp := wp_of c19_74.eq_1
@[go_sem] def c19_75_wp := wp_of c19_75.eq_1
@[go_sem] def c19_76_wp := wp_of c19_76.eq_1
@[go_sem] def c19_77_wp := wp_of c19_77.eq_1
@[go_sem] def c19_78_wp := wp_of c19_78.eq_1
@[go_sem] def c19_79_wp := wp_of c19_79.eq_1
@[go_sem] def c19_80_wp := wp_of c19_80.eq_1
@[go_sem] def c19_81_wp := wp_of c19_81.eq_1
@[go_sem] def c19_82_wp := wp_of c19_82.eq_1
@[go_sem] def c19_83_wp := wp_of c19_83.eq_1
@[go_sem] def c19_84_wp := wp_of c19_84.eq_1
@[go_sem] def c19_85_wp := wp_of c19_85.eq_1
@[go_sem] def c19_86_wp := wp_of c19_86.eq_1
@[go_sem] def c19_87_wp := wp_of c19_87.eq_1
@[go_sem] def c19_88_wp := wp_of c19_88.eq_1
@[go_sem] def c19_89_wp := wp_of c19_89.eq_1
@[go_sem] def c19_90_wp := wp_of c19_90.eq_1
@[go_sem] def c19_91_wp := wp_of c19_91.eq_1
@[go_sem] def c19_92_wp := wp_of c19_92.eq_1
@[go_sem] def c19_93_wp := wp_of c19_93.eq_1
@[go_sem] def c19_94_wp := wp_of c19_94.eq_1
@[go_sem] def c19_95_wp := wp_of c19_95.eq_1
def c19 : AFn := ⟨141, [.c 4 (some 12), .t 5], c19_95⟩
theorem c19_ok : compF Tryz.prog Tryz.f19 = some c19 := by kernel_rfl
theorem a19 {args : List AV} {σ : ASt} {R : AV → ASt → Prop} (hl : args.length ≤ 141) (h : c19_95.wp Tryz.prog (RetQ [.c 4 (some 12), .t 5] R) (init args) σ) : ACalls Tryz.prog 19 args σ R := acalls_of Tryz.func19 c19_ok hl h
/-! 36: tabular/tabularref11.Signs -/
def c36_0 : ACode := .ops [
 ⟨some 2, none, .q (.mv (.v (.int .i64 0))), []⟩,
 ⟨some 3, none, .q (.mv (.v (.bool false))), []⟩]
def c36_1 : ACode := .ops [
 ⟨some 4, none, .q (.mv (.v (.int .i64 0))), []⟩]
def c36_2 : ACode := .ops [
 ⟨some 5, none, .q (.mv (.v (.int .i64 0))), []⟩]
def c36_3 : ACode := .ops [
 ⟨some 7, none, .q (.mv (.t 5)), []⟩,
 ⟨some 8, none, .q (.mv (.t 0)), []⟩,
 ⟨some 9, none, .q (.lenS (.t 8)), []⟩,
 ⟨some 10, none, .q (.bin .lss (.t 7) (.t 9)), []⟩]
def c36_4 : ACode := .cond (.t 10) .skip (.exit 0)
def c36_5 : ACode := .seq c36_3 c36_4
def c36_6 : ACode := .ops [
 ⟨some 11, none, .q (.mv (.t 0)), []⟩,
 ⟨some 12, none, .q (.mv (.t 5)), []⟩,
 ⟨some 13, none, .e (.call 60 [(.t 11), (.t 12)]), []⟩,
 ⟨some 6, none, .q (.mv (.t 13)), []⟩]
def c36_7 : ACode := .ops [
 ⟨some 14, none, .q (.mv (.t 6)), []⟩,
 ⟨some 15, none, .q (.bin .eql (.t 14) (.v (.int .i64 0))), []⟩]
def c36_8 : ACode := .ops [
 ⟨some 2, none, .q (.mv (.v (.int .i64 0))), []⟩,
 ⟨some 3, none, .q (.mv (.v (.bool false))), []⟩]
def c36_9 : ACode := .seq c36_8 .ret
def c36_10 : ACode := .cond (.t 15) c36_9 .skip
def c36_11 : ACode := .seq c36_7 c36_10
def c36_12 : ACode := .ops [
 ⟨some 16, none, .q (.mv (.t 5)), []⟩,
 ⟨some 17, none, .q (.mv (.t 6)), []⟩,
 ⟨some 18, none, .q (.bin .add (.t 16) (.t 17)), []⟩,
 ⟨some 5, none, .q (.mv (.t 18)), []⟩]
def c36_13 : ACode := .ops [
 ⟨some 19, none, .q (.mv (.t 4)), []⟩,
 ⟨some 20, none, .q (.bin .add (.t 19) (.v (.int .i64 1))), []⟩,
 ⟨some 4, none, .q (.mv (.t 20)), []⟩]
def c36_14 : ACode := .seq c36_12 c36_13
def c36_15 : ACode := .seq c36_11 c36_14
def c36_16 : ACode := .seq c36_6 c36_15
def c36_17 : ACode := .block 1 c36_16
def c36_18 : ACode := .seq c36_5 c36_17
def c36_19 : ACode := .loop c36_18
def c36_20 : ACode := .block 0 c36_19
def c36_21 : ACode := .seq c36_2 c36_20
def c36_22 : ACode := .ops [
 ⟨some 21, none, .q (.mv (.t 4)), []⟩,
 ⟨some 2, none, .q (.mv (.t 21)), []⟩,
 ⟨some 3, none, .q (.mv (.v (.bool true))), []⟩]
def c36_23 : ACode := .seq c36_22 .ret
def c36_24 : ACode := .seq c36_21 c36_23
def c36_25 : ACode := .seq c36_1 c36_24
def c36_26 : ACode := .seq c36_0 c36_25
@[go_sem] def c36_0_wp := wp_of c36_0.eq_1
@[go_sem] def c36_1_wp := wp_of c36_1.eq_1
@[go_sem] def c36_2_wp := wp_of c36_2.eq_1
@[go_sem] def c36_3_wp := wp_of c36_3.eq_1
@[go_sem] def c36_4_wp := wp_of c36_4.eq_1
@[go_sem] def c36_5_wp := wp_of c36_5.eq_1
@[go_sem] def c36_6_wp := wp_of c36_6.eq_1
@[go_sem] def c36_7_wp := wp_of c36_7.eq_1
@[go_sem] def c36_8_wp := wp_of c36_8.eq_1
@[go_sem] def c36_9_wp := wp_of c36_9.eq_1
@[go_sem] def c36_10_wp := wp_of c36_10.eq_1
@[go_sem] def c36_11_wp := wp_of c36_11.eq_1
@[go_sem] def c36_12_wp := wp_of c36_12.eq_1
@[go_sem] def c36_13_wp := wp_of c36_13.eq_1
@[go_sem] def c36_14_wp := wp_of c36_14.eq_1
@[go_sem] def c36_15_wp := wp_of c36_15.eq_1
@[go_sem] def c36_16_wp := wp_of c36_16.eq_1
@[go_sem] def c36_17_wp := wp_of c36_17.eq_1
@[go_sem] def c36_18_wp := wp_of c36_18.eq_1
@[go_sem] def c36_19_wp := wp_of c36_19.eq_1
@[go_sem] def c36_20_wp := wp_of c36_20.eq_1
@[go_sem] def c36_21_wp := wp_of c36_21.eq_1
@[go_sem] def c36_22_wp := wp_of c36_22.eq_1
@[go_sem] def c36_23_wp := wp_of c36_23.eq_1
@[go_sem] def c36_24_wp := wp_of c36_24.eq_1
@[go_sem] def c36_25_wp := wp_of c36_25.eq_1
@[go_sem] def c36_26_wp := wp_of c36_26.eq_1
def c36 : AFn := ⟨22, [.t 2, .t 3], c36_26⟩
theorem c36_ok : compF Tryz.prog Tryz.f36 = some c36 := by kernel_rfl
theorem a36 {args : List AV} {σ : ASt} {R : AV → ASt → Prop} (hl : args.length ≤ 22) (h : c36_26.wp Tryz.prog (RetQ [.t 2, .t 3] R) (init args) σ) : ACalls Tryz.prog 36 args σ R := acalls_of Tryz.func36 c36_ok hl h
/-! 37: tabular/tabularlaw12.place -/
def c37_0 : ACode := .ops [
 ⟨some 1, none, .e (.box (.t 0)), []⟩,
 ⟨some 2, none, .e (.alloc [(.int .i64 0), (.int .i64 0), (.bool false), (.bool false)]), []⟩]
def c37_1 : ACode := .ops [
 ⟨some 3, none, .q (.fa 0 (.t 1)), []⟩,
 ⟨some 4, none, .q (.ld none (.t 3)), []⟩,
 ⟨some 5, none, .q (.bin .rem (.t 4) (.v (.int .i64 3000))), []⟩,
 ⟨some 6, none, .q (.bin .add (.t 5) (.v (.int .i64 3000))), []⟩,
 ⟨some 7, none, .q (.bin .rem (.t 6) (.v (.int .i64 3000))), []⟩,
 ⟨some 8, none, .q (.fa 0 (.t 1)), []⟩,
 ⟨none, none, .e (.store 1 (.t 8) (.t 7)), []⟩]
def c37_2 : ACode := .ops [
 ⟨some 9, none, .q (.fa 1 (.t 1)), []⟩,
 ⟨some 10, none, .q (.ld none (.t 9)), []⟩,
 ⟨some 11, none, .q (.bin .rem (.t 10) (.v (.int .i64 700))), []⟩,
 ⟨some 12, none, .q (.bin .add (.t 11) (.v (.int .i64 700))), []⟩,
 ⟨some 13, none, .q (.bin .rem (.t 12) (.v (.int .i64 700))), []⟩,
 ⟨some 14, none, .q (.fa 1 (.t 1)), []⟩,
 ⟨none, none, .e (.store 1 (.t 14) (.t 13)), []⟩]
def c37_3 : ACode := .ops [
 ⟨some 15, none, .q (.ld (some 4) (.t 1)), []⟩,
 ⟨none, none, .e (.store 4 (.t 2) (.t 15)), []⟩]
def c37_4 : ACode := .seq c37_3 .ret
def c37_5 : ACode := .seq c37_2 c37_4
def c37_6 : ACode := .seq c37_1 c37_5
def c37_7 : ACode := .seq c37_0 c37_6
@[go_sem] def c37_0_wp := wp_of c37_0.eq_1
@[go_sem] def c37_1_wp := wp_of c37_1.eq_1
@[go_sem] def c37_2_wp := wp_of c37_2.eq_1
@[go_sem] def c37_3_wp := wp_of c37_3.eq_1
@[go_sem] def c37_4_wp := wp_of c37_4.eq_1
@[go_sem] def c37_5_wp := wp_of c37_5.eq_1
@[go_sem] def c37_6_wp := wp_of c37_6.eq_1
@[go_sem] def c37_7_wp := wp_of c37_7.eq_1
def c37 : AFn := ⟨16, [.c 2 (some 4)], c37_7⟩
theorem c37_ok : compF Tryz.prog Tryz.f37 = some c37 := by kernel_rfl
theorem a37 {args : List AV} {σ : ASt} {R : AV → ASt → Prop} (hl : args.length ≤ 16) (h : c37_7.wp Tryz.prog (RetQ [.c 2 (some 4)] R) (init args) σ) : ACalls Tryz.prog 37 args σ R := acalls_of Tryz.func37 c37_ok hl h
/-! 60: tabular/tabularref11.Sign -/
def c60_0 : ACode := .ops [
 ⟨some 4, none, .q (.mv (.v (.int .i64 0))), []⟩]
def c60_1 : ACode := .ops [
 ⟨some 8, none, .q (.mv (.t 1)), []⟩,
 ⟨some 9, none, .q (.mv (.t 0)), []⟩,
 ⟨some 10, none, .q (.lenS (.t 9)), []⟩,
 ⟨some 11, none, .q (.bin .geq (.t 8) (.t 10)), []⟩]
def c60_2 : ACode := .ops [
 ⟨some 4, none, .q (.mv (.v (.int .i64 0))), []⟩]
def c60_3 : ACode := .seq c60_2 .ret
def c60_4 : ACode := .cond (.t 11) c60_3 .skip
def c60_5 : ACode := .seq c60_1 c60_4
def c60_6 : ACode := .ops [
 ⟨some 12, none, .q (.mv (.t 0)), []⟩,
 ⟨some 13, none, .q (.mv (.t 1)), []⟩,
 ⟨some 14, none, .q (.idx (.t 12) (.t 13)), []⟩,
 ⟨some 15, none, .q (.conv .i64 (.t 14)), []⟩,
 ⟨some 5, none, .q (.mv (.t 15)), []⟩]
def c60_7 : ACode := .ops [
 ⟨some 16, none, .q (.mv (.t 5)), []⟩,
 ⟨some 17, none, .q (.bin .lss (.t 16) (.v (.int .i64 128))), []⟩]
def c60_8 : ACode := .ops [
 ⟨some 4, none, .q (.mv (.v (.int .i64 1))), []⟩]
def c60_9 : ACode := .seq c60_8 .ret
def c60_10 : ACode := .cond (.t 17) c60_9 .skip
def c60_11 : ACode := .seq c60_7 c60_10
def c60_12 : ACode := .ops [
 ⟨some 18, none, .q (.mv (.t 5)), []⟩,
 ⟨some 19, none, .q (.bin .geq (.t 18) (.v (.int .i64 194))), []⟩,
 ⟨some 20, none, .q (.mv (.t 19)), []⟩,
 ⟨some 21, some (20, true), .q (.mv (.t 5)), []⟩,
 ⟨some 22, some (20, true), .q (.bin .leq (.t 21) (.v (.int .i64 223))), []⟩,
 ⟨some 23, none, .q (.pick (.t 20) (.t 22) (.v (.bool false))), []⟩,
 ⟨some 24, none, .q (.mv (.t 23)), []⟩,
 ⟨some 25, some (24, true), .q (.mv (.t 0)), []⟩,
 ⟨some 26, some (24, true), .q (.mv (.t 1)), []⟩,
 ⟨some 27, some (24, true), .q (.bin .add (.t 26) (.v (.int .i64 1))), []⟩,
 ⟨some 28, some (24, true), .e (.call 81 [(.t 25), (.t 27), (.v (.int .i64 128)), (.v (.int .i64 191))]), []⟩,
 ⟨some 29, none, .q (.pick (.t 24) (.t 28) (.v (.bool false))), []⟩]
def c60_13 : ACode := .ops [
 ⟨some 4, none, .q (.mv (.v (.int .i64 2))), []⟩]
def c60_14 : ACode := .seq c60_13 .ret
def c60_15 : ACode := .cond (.t 29) c60_14 .skip
def c60_16 : ACode := .seq c60_12 c60_15
def c60_17 : ACode := .ops [
 ⟨some 6, none, .q (.mv (.v (.int .i64 128))), []⟩,
 ⟨some 7, none, .q (.mv (.v (.int .i64 191))), []⟩]
def c60_18 : ACode := .ops [
 ⟨some 30, none, .q (.mv (.t 5)), []⟩,
 ⟨some 31, none, .q (.bin .eql (.t 30) (.v (.int .i64 224))), []⟩,
 ⟨some 32, none, .q (.mv (.t 31)), []⟩,
 ⟨some 33, some (32, false), .q (.mv (.t 5)), []⟩,
 ⟨some 34, some (32, false), .q (.bin .eql (.t 33) (.v (.int .i64 240))), []⟩,
 ⟨some 35, none, .q (.pick (.t 32) (.v (.bool true)) (.t 34)), []⟩]
def c60_19 : ACode := .ops [
 ⟨some 6, none, .q (.mv (.v (.int .i64 160))), []⟩]
def c60_20 : ACode := .cond (.t 35) c60_19 .skip
def c60_21 : ACode := .seq c60_18 c60_20
def c60_22 : ACode := .ops [
 ⟨some 36, none, .q (.mv (.t 5)), []⟩,
 ⟨some 37, none, .q (.bin .eql (.t 36) (.v (.int .i64 240))), []⟩]
def c60_23 : ACode := .ops [
 ⟨some 6, none, .q (.mv (.v (.int .i64 144))), []⟩]
def c60_24 : ACode := .cond (.t 37) c60_23 .skip
def c60_25 : ACode := .seq c60_22 c60_24
def c60_26 : ACode := .ops [
 ⟨some 38, none, .q (.mv (.t 5)), []⟩,
 ⟨some 39, none, .q (.bin .eql (.t 38) (.v (.int .i64 237))), []⟩]
def c60_27 : ACode := .ops [
 ⟨some 7, none, .q (.mv (.v (.int .i64 159))), []⟩]
def c60_28 : ACode := .cond (.t 39) c60_27 .skip
def c60_29 : ACode := .seq c60_26 c60_28
def c60_30 : ACode := .ops [
 ⟨some 40, none, .q (.mv (.t 5)), []⟩,
 ⟨some 41, none, .q (.bin .eql (.t 40) (.v (.int .i64 244))), []⟩]
def c60_31 : ACode := .ops [
 ⟨some 7, none, .q (.mv (.v (.int .i64 143))), []⟩]
def c60_32 : ACode := .cond (.t 41) c60_31 .skip
def c60_33 : ACode := .seq c60_30 c60_32
def c60_34 : ACode := .ops [
 ⟨some 42, none, .q (.mv (.t 5)), []⟩,
 ⟨some 43, none, .q (.bin .geq (.t 42) (.v (.int .i64 224))), []⟩,
 ⟨some 44, none, .q (.mv (.t 43)), []⟩,
 ⟨some 45, some (44, true), .q (.mv (.t 5)), []⟩,
 ⟨some 46, some (44, true), .q (.bin .leq (.t 45) (.v (.int .i64 239))), []⟩,
 ⟨some 47, none, .q (.pick (.t 44) (.t 46) (.v (.bool false))), []⟩,
 ⟨some 48, none, .q (.mv (.t 47)), []⟩,
 ⟨some 49, some (48, true), .q (.mv (.t 0)), []⟩,
 ⟨some 50, some (48, true), .q (.mv (.t 1)), []⟩,
 ⟨some 51, some (48, true), .q (.bin .add (.t 50) (.v (.int .i64 1))), []⟩,
 ⟨some 52, some (48, true), .q (.mv (.t 6)), []⟩,
 ⟨some 53, some (48, true), .q (.mv (.t 7)), []⟩,
 ⟨some 54, some (48, true), .e (.call 81 [(.t 49), (.t 51), (.t 52), (.t 53)]), []⟩,
 ⟨some 55, none, .q (.pick (.t 48) (.t 54) (.v (.bool false))), []⟩,
 ⟨some 56, none, .q (.mv (.t 55)), []⟩,
 ⟨some 57, some (56, true), .q (.mv (.t 0)), []⟩,
 ⟨some 58, some (56, true), .q (.mv (.t 1)), []⟩,
 ⟨some 59, some (56, true), .q (.bin .add (.t 58) (.v (.int .i64 2))), []⟩,
 ⟨some 60, some (56, true), .e (.call 81 [(.t 57), (.t 59), (.v (.int .i64 128)), (.v (.int .i64 191))]), []⟩,
 ⟨some 61, none, .q (.pick (.t 56) (.t 60) (.v (.bool false))), []⟩]
def c60_35 : ACode := .ops [
 ⟨some 4, none, .q (.mv (.v (.int .i64 3))), []⟩]
def c60_36 : ACode := .seq c60_35 .ret
def c60_37 : ACode := .cond (.t 61) c60_36 .skip
def c60_38 : ACode := .seq c60_34 c60_37
def c60_39 : ACode := .ops [
 ⟨some 62, none, .q (.mv (.t 5)), []⟩,
 ⟨some 63, none, .q (.bin .geq (.t 62) (.v (.int .i64 240))), []⟩,
 ⟨some 64, none, .q (.mv (.t 63)), []⟩,
 ⟨some 65, some (64, true), .q (.mv (.t 5)), []⟩,
 ⟨some 66, some (64, true), .q (.bin .leq (.t 65) (.v (.int .i64 244))), []⟩,
 ⟨some 67, none, .q (.pick (.t 64) (.t 66) (.v (.bool false))), []⟩,
 ⟨some 68, none, .q (.mv (.t 67)), []⟩,
 ⟨some 69, some (68, true), .q (.mv (.t 0)), []⟩,
 ⟨some 70, some (68, true), .q (.mv (.t 1)), []⟩,
 ⟨some 71, some (68, true), .q (.bin .add (.t 70) (.v (.int .i64 1))), []⟩,
 ⟨some 72, some (68, true), .q (.mv (.t 6)), []⟩,
 ⟨some 73, some (68, true), .q (.mv (.t 7)), []⟩,
 ⟨some 74, some (68, true), .e (.call 81 [(.t 69), (.t 71), (.t 72), (.t 73)]), []⟩,
 ⟨some 75, none, .q (.pick (.t 68) (.t 74) (.v (.bool false))), []⟩,
 ⟨some 76, none, .q (.mv (.t 75)), []⟩,
 ⟨some 77, some (76, true), .q (.mv (.t 0)), []⟩,
 ⟨some 78, some (76, true), .q (.mv (.t 1)), []⟩,
 ⟨some 79, some (76, true), .q (.bin .add (.t 78) (.v (.int .i64 2))), []⟩,
 ⟨some 80, some (76, true), .e (.call 81 [(.t 77), (.t 79), (.v (.int .i64 128)), (.v (.int .i64 191))]), []⟩,
 ⟨some 81, none, .q (.pick (.t 76) (.t 80) (.v (.bool false))), []⟩,
 ⟨some 82, none, .q (.mv (.t 81)), []⟩,
 ⟨some 83, some (82, true), .q (.mv (.t 0)), []⟩,
 ⟨some 84, some (82, true), .q (.mv (.t 1)), []⟩,
 ⟨some 85, some (82, true), .q (.bin .add (.t 84) (.v (.int .i64 3))), []⟩,
 ⟨some 86, some (82, true), .e (.call 81 [(.t 83), (.t 85), (.v (.int .i64 128)), (.v (.int .i64 191))]), []⟩,
 ⟨some 87, none, .q (.pick (.t 82) (.t 86) (.v (.bool false))), []⟩]
def c60_40 : ACode := .ops [
 ⟨some 4, none, .q (.mv (.v (.int .i64 4))), []⟩]
def c60_41 : ACode := .seq c60_40 .ret
def c60_42 : ACode := .cond (.t 87) c60_41 .skip
def c60_43 : ACode := .seq c60_39 c60_42
def c60_44 : ACode := .ops [
 ⟨some 4, none, .q (.mv (.v (.int .i64 0))), []⟩]
def c60_45 : ACode := .seq c60_44 .ret
def c60_46 : ACode := .seq c60_43 c60_45
def c60_47 : ACode := .seq c60_38 c60_46
def c60_48 : ACode := .seq c60_33 c60_47
def c60_49 : ACode := .seq c60_29 c60_48
def c60_50 : ACode := .seq c60_25 c60_49
def c60_51 : ACode := .seq c60_21 c60_50
def c60_52 : ACode := .seq c60_17 c60_51
def c60_53 : ACode := .seq c60_16 c60_52
def c60_54 : ACode := .seq c60_11 c60_53
def c60_55 : ACode := .seq c60_6 c60_54
def c60_56 : ACode := .seq c60_5 c60_55
def c60_57 : ACode := .seq c60_0 c60_56
@[go_sem] def c60_0_wp := wp_of c60_0.eq_1
@[go_sem] def c60_1_wp := wp_of c60_1.eq_1
@[go_sem] def c60_2_wp := wp_of c60_2.eq_1
@[go_sem] def c60_3_wp := wp_of c60_3.eq_1
@[go_sem] def c60_4_wp := wp_of c60_4.eq_1
@[go_sem] def c60_5_wp := wp_of c60_5.eq_1
@[go_sem] def c60_6_wp := wp_of c60_6.eq_1
@[go_sem] def c60_7_wp := wp_of c60_7.eq_1
@[go_sem] def c60_8_wp := wp_of c60_8.eq_1
@[go_sem] def c60_9_wp := wp_of c60_9.eq_1
@[go_sem] def c60_10_wp := wp_of c60_10.eq_1
@[go_sem] def c60_11_wp := wp_of c60_11.eq_1
@[go_sem] def c60_12_wp := wp_of c60_12.eq_1
@[go_sem] def c60_13_wp := wp_of c60_13.eq_1
@[go_sem] def c60_14_wp := wp_of c60_14.eq_1
@[go_sem] def c60_15_wp := wp_of c60_15.eq_1
@[go_sem] def c60_16_wp := wp_of c60_16.eq_1
@[go_sem] def c60_17_wp := wp_of c60_17.eq_1
@[go_sem] def c60_18_wp := wp_of c60_18.eq_1
@[go_sem] def c60_19_wp := wp_of c60_19.eq_1
@[go_sem] def c60_20_wp := wp_of c60_20.eq_1
@[go_sem] def c60_21_wp := wp_of c60_21.eq_1
@[go_sem] def c60_22_wp := wp_of c60_22.eq_1
@[go_sem] def c60_23_wp := wp_of c60_23.eq_1
@[go_sem] def c60_24_wp := wp_of c60_24.eq_1
@[go_sem] def c60_25_wp := wp_of c60_25.eq_1
@[go_sem] def c60_26_wp := wp_of c60_26.eq_1
@[go_sem] def c60_27_wp := wp_of c60_27.eq_1
@[go_sem] def c60_28_wp := wp_of c60_28.eq_1
@[go_sem] def c60_29_wp := wp_of c60_29.eq_1
@[go_sem] def c60_30_wp := wp_of c60_30.eq_1
@[go_sem] def c60_31_wp := wp_of c60_31.eq_1
@[go_sem] def c60_32_wp := wp_of c60_32.eq_1
@[go_sem] def c60_33_wp := wp_of c60_33.eq_1
@[go_sem] def c60_34_wp := wp_of c60_34.eq_1
@[go_sem] def c60_35_wp := wp_of c60_35.eq_1
@[go_sem] def c60_36_wp := wp_of c60_36.eq_1
@[go_sem] def c60_37_wp := wp_of c60_37.eq_1
@[go_sem] def c60_38_wp := wp_of c60_38.eq_1
@[go_sem] def c60_39_wp := wp_of c60_39.eq_1
@[go_sem] def c60_40_wp := wp_of c60_40.eq_1
@[go_sem] def c60_41_wp := wp_of c60_41.eq_1
@[go_sem] def c60_42_wp := wp_of c60_42.eq_1
@[go_sem] def c60_43_wp := wp_of c60_43.eq_1
@[go_sem] def c60_44_wp := wp_of c60_44.eq_1
@[go_sem] def c60_45_wp := wp_of c60_45.eq_1
@[go_sem] def c60_46_wp := wp_of c60_46.eq_1
@[go_sem] def c60_47_wp := wp_of c60_47.eq_1
@[go_sem] def c60_48_wp := wp_of c60_48.eq_1
@[go_sem] def c60_49_wp := wp_of c60_49.eq_1
@[go_sem] def c60_50_wp := wp_of c60_50.eq_1
@[go_sem] def c60_51_wp := wp_of c60_51.eq_1
@[go_sem] def c60_52_wp := wp_of c60_52.eq_1
@[go_sem] def c60_53_wp := wp_of c60_53.eq_1
@[go_sem] def c60_54_wp := wp_of c60_54.eq_1
@[go_sem] def c60_55_wp := wp_of c60_55.eq_1
@[go_sem] def c60_56_wp := wp_of c60_56.eq_1
@[go_sem] def c60_57_wp := wp_of c60_57.eq_1
def c60 : AFn := ⟨88, [.t 4], c60_57⟩
theorem c60_ok : compF Tryz.prog Tryz.f60 = some c60 := by kernel_rfl
theorem a60 {args : List AV} {σ : ASt} {R : AV → ASt → Prop} (hl : args.length ≤ 88) (h : c60_57.wp Tryz.prog (RetQ [.t 4] R) (init args) σ) : ACalls Tryz.prog 60 args σ R := acalls_of Tryz.func60 c60_ok hl h
/-! 81: tabular/tabularref11.more -/
def c81_0 : ACode := .ops [
 ⟨some 8, none, .q (.mv (.v (.bool false))), []⟩]
def c81_1 : ACode := .ops [
 ⟨some 9, none, .q (.mv (.t 1)), []⟩,
 ⟨some 10, none, .q (.mv (.t 0)), []⟩,
 ⟨some 11, none, .q (.lenS (.t 10)), []⟩,
 ⟨some 12, none, .q (.bin .lss (.t 9) (.t 11)), []⟩,
 ⟨some 13, none, .q (.mv (.t 12)), []⟩,
 ⟨some 14, some (13, true), .q (.mv (.t 0)), []⟩,
 ⟨some 15, some (13, true), .q (.mv (.t 1)), []⟩,
 ⟨some 16, some (13, true), .q (.idx (.t 14) (.t 15)), []⟩,
 ⟨some 17, some (13, true), .q (.conv .i64 (.t 16)), []⟩,
 ⟨some 18, some (13, true), .q (.mv (.t 2)), []⟩,
 ⟨some 19, some (13, true), .q (.bin .geq (.t 17) (.t 18)), []⟩,
 ⟨some 20, none, .q (.pick (.t 13) (.t 19) (.v (.bool false))), []⟩,
 ⟨some 21, none, .q (.mv (.t 20)), []⟩,
 ⟨some 22, some (21, true), .q (.mv (.t 0)), []⟩,
 ⟨some 23, some (21, true), .q (.mv (.t 1)), []⟩,
 ⟨some 24, some (21, true), .q (.idx (.t 22) (.t 23)), []⟩,
 ⟨some 25, some (21, true), .q (.conv .i64 (.t 24)), []⟩,
 ⟨some 26, some (21, true), .q (.mv (.t 3)), []⟩,
 ⟨some 27, some (21, true), .q (.bin .leq (.t 25) (.t 26)), []⟩,
 ⟨some 28, none, .q (.pick (.t 21) (.t 27) (.v (.bool false))), []⟩,
 ⟨some 8, none, .q (.mv (.t 28)), []⟩]
def c81_2 : ACode := .seq c81_1 .ret
def c81_3 : ACode := .seq c81_0 c81_2
@[go_sem] def c81_0_wp := wp_of c81_0.eq_1
@[go_sem] def c81_1_wp := wp_of c81_1.eq_1
@[go_sem] def c81_2_wp := wp_of c81_2.eq_1
@[go_sem] def c81_3_wp := wp_of c81_3.eq_1
def c81 : AFn := ⟨29, [.t 8], c81_3⟩
theorem c81_ok : compF Tryz.prog Tryz.f81 = some c81 := by kernel_rfl
theorem a81 {args : List AV} {σ : ASt} {R : AV → ASt → Prop} (hl : args.length ≤ 29) (h : c81_3.wp Tryz.prog (RetQ [.t 8] R) (init args) σ) : ACalls Tryz.prog 81 args σ R := acalls_of Tryz.func81 c81_ok hl h
end Go.A
