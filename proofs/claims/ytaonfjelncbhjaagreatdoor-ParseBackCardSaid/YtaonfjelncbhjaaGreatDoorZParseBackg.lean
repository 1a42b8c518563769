/- Part 7 of what ParseBack leans on: Ec CodeEd Ed CodeEe Ee CodeEh Eh CodeEj Ej Pa CodeZk. -/
import Derived.Test.YtaonfjelncbhjaaGreatDoorProg
import Derived.KernelRfl
import Derived.Test.YtaonfjelncbhjaaGreatDoorZParseBackf
set_option linter.defProp false
set_option linter.unusedSimpArgs false
set_option linter.unusedVariables false
set_option maxRecDepth 100000
namespace Go.A
open Go.Proofs Go.Lib
theorem failure_ok (op n : Int) (s : List UInt8) (a b : Ref) (kids : List Nd) (hn : n.natAbs ≤ 999999999999999999) : Pure Tryz.prog 30 [(Nd.mk op n s a b kids).av] (.str (failT op n)) := by
 intro σ
 have hW := whole_ok hn
 have hE := tenames_ok
 obtain ⟨q, hq⟩ : ∃ q, failT op n = q := ⟨_, rfl⟩
 rw [hq]
 unfold failT at hq
 rw [Nd.av_cs]
 generalize n.tdiv 10000 = i at *
 refine a30 (by simp) ?_
 simp (disch := first | assumption | omega) only [go_sem]
 refine boxC_by rfl fun c hc => ?_
 simp (disch := first | assumption | omega) only [go_sem, Nat.reduceEqDiff, ↓reduceIte]
 refine hW.use ?_
 by_cases h4 : op = 4
 ·by_cases h2 : i < 1
  ·rw [if_pos (.inr (.inl h2))] at hq
   subst hq
   simp (disch := first | assumption | omega) only [go_sem, Nat.reduceEqDiff, ↓reduceIte, h4, h2]
   exact retC_by (by repeat' (first | exact Drop.refl _ | with_reducible refine Drop.off ?_ (by assumption))) (.refl _) ⟨rfl, rfl⟩
  ·by_cases h3 : 7 < i
   ·rw [if_pos (.inr (.inr h3))] at hq
    subst hq
    simp (disch := first | assumption | omega) only [go_sem, Nat.reduceEqDiff, ↓reduceIte, h4, h2]
    refine hE.use ?_
    unfold errL
    simp (disch := first | assumption | omega) only [go_sem, Nat.reduceEqDiff, Nat.reduceAdd, ↓reduceIte, h3]
    exact retC_by (by repeat' (first | exact Drop.refl _ | with_reducible refine Drop.off ?_ (by assumption))) (.refl _) ⟨rfl, rfl⟩
   ·rw [if_neg (by omega)] at hq
    have hc : i = 1 ∨ i = 2 ∨ i = 3 ∨ i = 4 ∨ i = 5 ∨ i = 6 ∨ i = 7 := by omega
    subst hq
    rcases hc with rfl | rfl | rfl | rfl | rfl | rfl | rfl
    all_goals
     simp (disch := first | assumption | omega) only [go_sem, Nat.reduceEqDiff, Int.reduceLT, ↓reduceIte, Int.reduceSub, Int.reduceToNat, h4]
     refine hE.use ?_
     unfold errL
     simp (disch := first | assumption | omega) only [go_sem, Nat.reduceEqDiff, Nat.reduceAdd, Int.reduceLT, ↓reduceIte]
     refine hE.use ?_
     unfold errL
     simp (disch := first | assumption | omega) only [go_sem, Nat.reduceEqDiff, ↓reduceIte, Int.reduceSub, Int.reduceToNat]
     exact retC_by (by repeat' (first | exact Drop.refl _ | with_reducible refine Drop.off ?_ (by assumption))) (.refl _) ⟨rfl, rfl⟩
 ·rw [if_pos (.inl h4)] at hq
  subst hq
  simp (disch := first | assumption | omega) only [go_sem, Nat.reduceEqDiff, ↓reduceIte, h4]
  exact retC_by (by repeat' (first | exact Drop.refl _ | with_reducible refine Drop.off ?_ (by assumption))) (.refl _) ⟨rfl, rfl⟩
theorem sizes_len : ∀ l : List Nd, l.length ≤ Nd.sizes l
 | [] => by simp
 | x :: l => by have := x.size_pos; have := sizes_len l; rw [Nd.sizes, List.length_cons]; omega
end Go.A
namespace Go.A
open Go.Proofs
/-! 16: tabular/expr.spell -/
def c16_0 : ACode := .ops [
 ⟨some 3, none, .e (.box (.t 1)), []⟩]
def c16_1 : ACode := .ops [
 ⟨some 7, none, .q (.fa 0 (.t 3)), []⟩,
 ⟨some 8, none, .q (.ld none (.t 7)), []⟩]
def c16_2 : ACode := .ops [
 ⟨some 36, none, .q (.bin .eql (.t 8) (.v (.int .i64 1))), []⟩,
 ⟨some 35, none, .q (.mv (.t 36)), []⟩]
def c16_3 : ACode := .ops [
 ⟨some 37, none, .q (.mv (.t 0)), []⟩,
 ⟨some 38, none, .q (.fa 1 (.t 3)), []⟩,
 ⟨some 39, none, .q (.ld none (.t 38)), []⟩,
 ⟨some 40, none, .e (.call 27 [(.t 39)]), []⟩,
 ⟨some 41, none, .e (.call 26 [(.t 37), (.t 40)]), []⟩]
def c16_4 : ACode := .ops [
 ⟨some 43, none, .q (.bin .eql (.t 8) (.v (.int .i64 2))), []⟩,
 ⟨some 42, none, .q (.mv (.t 43)), []⟩]
def c16_5 : ACode := .ops [
 ⟨some 44, none, .q (.mv (.t 0)), []⟩,
 ⟨some 45, none, .q (.fa 2 (.t 3)), []⟩,
 ⟨some 46, none, .q (.ld none (.t 45)), []⟩,
 ⟨some 47, none, .e (.call 28 [(.t 46)]), []⟩,
 ⟨some 48, none, .e (.call 26 [(.t 44), (.t 47)]), []⟩]
def c16_6 : ACode := .ops [
 ⟨some 50, none, .q (.bin .eql (.t 8) (.v (.int .i64 3))), []⟩,
 ⟨some 49, none, .q (.mv (.t 50)), []⟩]
def c16_7 : ACode := .ops [
 ⟨some 51, none, .q (.mv (.t 0)), []⟩,
 ⟨some 52, none, .q (.fa 1 (.t 3)), []⟩,
 ⟨some 53, none, .q (.ld none (.t 52)), []⟩,
 ⟨some 54, none, .q (.bin .neq (.t 53) (.v (.int .i64 0))), []⟩,
 ⟨some 55, none, .e (.call 29 [(.t 54)]), []⟩,
 ⟨some 56, none, .e (.call 26 [(.t 51), (.t 55)]), []⟩]
def c16_8 : ACode := .ops [
 ⟨some 58, none, .q (.bin .eql (.t 8) (.v (.int .i64 4))), []⟩,
 ⟨some 57, none, .q (.mv (.t 58)), []⟩]
def c16_9 : ACode := .ops [
 ⟨some 59, none, .q (.mv (.t 0)), []⟩,
 ⟨some 60, none, .q (.ld (some 12) (.t 3)), []⟩,
 ⟨some 61, none, .e (.call 30 [(.t 60)]), []⟩,
 ⟨some 62, none, .e (.call 26 [(.t 59), (.t 61)]), []⟩]
def c16_10 : ACode := .ops [
 ⟨some 64, none, .q (.bin .eql (.t 8) (.v (.int .i64 5))), []⟩,
 ⟨some 63, none, .q (.mv (.t 64)), []⟩]
def c16_11 : ACode := .ops [
 ⟨some 65, none, .q (.mv (.t 0)), []⟩,
 ⟨some 66, none, .q (.fa 3 (.t 3)), []⟩,
 ⟨some 67, none, .q (.ld (some 4) (.t 66)), []⟩,
 ⟨some 68, none, .e (.call 31 [(.t 67)]), []⟩,
 ⟨some 69, none, .e (.call 26 [(.t 65), (.t 68)]), []⟩]
def c16_12 : ACode := .ops [
 ⟨some 71, none, .q (.bin .eql (.t 8) (.v (.int .i64 6))), []⟩,
 ⟨some 70, none, .q (.mv (.t 71)), []⟩]
def c16_13 : ACode := .ops [
 ⟨some 72, none, .q (.mv (.t 0)), []⟩,
 ⟨some 73, none, .q (.fa 3 (.t 3)), []⟩,
 ⟨some 74, none, .q (.ld (some 4) (.t 73)), []⟩,
 ⟨some 75, none, .q (.fa 7 (.t 3)), []⟩,
 ⟨some 76, none, .q (.ld (some 4) (.t 75)), []⟩,
 ⟨some 77, none, .q (.build [(.int .i64 0), (.int .i64 0), (.bool false), (.bool false), (.int .i64 0), (.int .i64 0), (.bool false), (.bool false)] [(0, 4, (.t 74)), (4, 4, (.t 76))]), []⟩,
 ⟨some 78, none, .e (.call 32 [(.t 77)]), []⟩,
 ⟨some 79, none, .e (.call 26 [(.t 72), (.t 78)]), []⟩]
def c16_14 : ACode := .ops [
 ⟨some 81, none, .q (.bin .eql (.t 8) (.v (.int .i64 7))), []⟩,
 ⟨some 80, none, .q (.mv (.t 81)), []⟩]
def c16_15 : ACode := .ops [
 ⟨some 82, none, .q (.bin .eql (.t 8) (.v (.int .i64 8))), []⟩,
 ⟨some 80, none, .q (.mv (.t 82)), []⟩]
def c16_16 : ACode := .cond (.t 80) .skip c16_15
def c16_17 : ACode := .seq c16_14 c16_16
def c16_18 : ACode := .ops [
 ⟨some 83, none, .q (.mv (.t 0)), []⟩,
 ⟨some 84, none, .q (.fa 0 (.t 3)), []⟩,
 ⟨some 85, none, .q (.ld none (.t 84)), []⟩,
 ⟨some 86, none, .q (.bin .sub (.t 85) (.v (.int .i64 7))), []⟩,
 ⟨some 87, none, .q (.idx (.v (.str [45, 43])) (.t 86)), []⟩,
 ⟨some 88, none, .e (.call 33 [(.t 83), (.t 87)]), []⟩]
def c16_19 : ACode := .ops [
 ⟨some 89, none, .q (.mv (.t 0)), []⟩,
 ⟨some 90, none, .q (.fa 11 (.t 3)), []⟩,
 ⟨some 91, none, .q (.ld none (.t 90)), []⟩,
 ⟨some 92, none, .q (.ia 12 (.t 91) (.v (.int .i64 0))), []⟩,
 ⟨some 93, none, .q (.ld (some 12) (.t 92)), []⟩,
 ⟨some 94, none, .e (.call 34 [(.t 89), (.t 93), (.v (.int .i64 6))]), []⟩]
def c16_20 : ACode := .seq c16_18 c16_19
def c16_21 : ACode := .ops [
 ⟨some 96, none, .q (.bin .eql (.t 8) (.v (.int .i64 9))), []⟩,
 ⟨some 95, none, .q (.mv (.t 96)), []⟩]
def c16_22 : ACode := .ops [
 ⟨some 97, none, .q (.mv (.t 0)), []⟩,
 ⟨some 98, none, .q (.fa 11 (.t 3)), []⟩,
 ⟨some 99, none, .q (.ld none (.t 98)), []⟩,
 ⟨some 100, none, .q (.ia 12 (.t 99) (.v (.int .i64 0))), []⟩,
 ⟨some 101, none, .q (.ld (some 12) (.t 100)), []⟩,
 ⟨some 102, none, .e (.call 34 [(.t 97), (.t 101), (.v (.int .i64 7))]), []⟩]
def c16_23 : ACode := .ops [
 ⟨some 103, none, .q (.mv (.t 0)), []⟩,
 ⟨some 104, none, .e (.call 33 [(.t 103), (.v (.int .u8 37))]), []⟩]
def c16_24 : ACode := .seq c16_22 c16_23
def c16_25 : ACode := .ops [
 ⟨some 106, none, .q (.bin .eql (.t 8) (.v (.int .i64 22))), []⟩,
 ⟨some 105, none, .q (.mv (.t 106)), []⟩]
def c16_26 : ACode := .ops [
 ⟨some 107, none, .q (.mv (.t 0)), []⟩,
 ⟨some 108, none, .q (.fa 2 (.t 3)), []⟩,
 ⟨some 109, none, .q (.ld none (.t 108)), []⟩,
 ⟨some 110, none, .e (.call 26 [(.t 107), (.t 109)]), []⟩]
def c16_27 : ACode := .ops [
 ⟨some 111, none, .q (.mv (.t 0)), []⟩,
 ⟨some 112, none, .e (.call 33 [(.t 111), (.v (.int .u8 40))]), []⟩]
def c16_28 : ACode := .ops [
 ⟨some 113, none, .q (.fa 11 (.t 3)), []⟩,
 ⟨some 114, none, .q (.ld none (.t 113)), []⟩,
 ⟨some 115, none, .q (.len (.t 114)), []⟩,
 ⟨some 116, none, .q (.mv (.v (.int .i64 0))), []⟩]
def c16_29 : ACode := .ops [
 ⟨some 117, none, .q (.bin .lss (.t 116) (.t 115)), []⟩]
def c16_30 : ACode := .cond (.t 117) .skip (.exit 1)
def c16_31 : ACode := .ops [
 ⟨some 118, none, .q (.mv (.t 116)), []⟩,
 ⟨some 119, none, .q (.ia 12 (.t 114) (.t 116)), []⟩,
 ⟨some 120, none, .q (.ld (some 12) (.t 119)), []⟩,
 ⟨some 5, none, .e (.alloc [(.int .i64 0), (.int .i64 0), (.str []), (.int .i64 0), (.int .i64 0), (.bool false), (.bool false), (.int .i64 0), (.int .i64 0), (.bool false), (.bool false), (.sl .full [])]), []⟩,
 ⟨some 4, none, .q (.mv (.t 118)), []⟩,
 ⟨none, none, .e (.store 12 (.t 5) (.t 120)), []⟩]
def c16_32 : ACode := .ops [
 ⟨some 121, none, .q (.mv (.t 4)), []⟩,
 ⟨some 122, none, .q (.bin .gtr (.t 121) (.v (.int .i64 0))), []⟩]
def c16_33 : ACode := .ops [
 ⟨some 123, none, .q (.mv (.t 0)), []⟩,
 ⟨some 124, none, .e (.call 33 [(.t 123), (.v (.int .u8 44))]), []⟩]
def c16_34 : ACode := .cond (.t 122) c16_33 .skip
def c16_35 : ACode := .seq c16_32 c16_34
def c16_36 : ACode := .ops [
 ⟨some 125, none, .q (.mv (.t 0)), []⟩,
 ⟨some 126, none, .q (.ld (some 12) (.t 5)), []⟩,
 ⟨some 127, none, .e (.call 16 [(.t 125), (.t 126)]), []⟩]
def c16_37 : ACode := .seq c16_35 c16_36
def c16_38 : ACode := .seq c16_31 c16_37
def c16_39 : ACode := .block 2 c16_38
def c16_40 : ACode := .ops [
 ⟨some 128, none, .q (.bin .add (.t 116) (.v (.int .i64 1))), []⟩,
 ⟨some 116, none, .q (.mv (.t 128)), []⟩]
def c16_41 : ACode := .seq c16_39 c16_40
def c16_42 : ACode := .seq c16_30 c16_41
def c16_43 : ACode := .seq c16_29 c16_42
def c16_44 : ACode := .loop c16_43
def c16_45 : ACode := .block 1 c16_44
def c16_46 : ACode := .seq c16_28 c16_45
def c16_47 : ACode := .ops [
 ⟨some 129, none, .q (.mv (.t 0)), []⟩,
 ⟨some 130, none, .e (.call 33 [(.t 129), (.v (.int .u8 41))]), []⟩]
def c16_48 : ACode := .seq c16_46 c16_47
def c16_49 : ACode := .seq c16_27 c16_48
def c16_50 : ACode := .seq c16_26 c16_49
def c16_51 : ACode := .ops [
 ⟨some 132, none, .q (.bin .eql (.t 8) (.v (.int .i64 23))), []⟩,
 ⟨some 131, none, .q (.mv (.t 132)), []⟩]
def c16_52 : ACode := .ops [
 ⟨some 9, none, .q (.fa 0 (.t 3)), []⟩,
 ⟨some 10, none, .q (.ld none (.t 9)), []⟩,
 ⟨some 11, none, .e (.call 35 [(.t 10)]), []⟩,
 ⟨some 6, none, .q (.mv (.t 11)), []⟩]
def c16_53 : ACode := .ops [
 ⟨some 12, none, .q (.mv (.t 0)), []⟩,
 ⟨some 13, none, .q (.fa 11 (.t 3)), []⟩,
 ⟨some 14, none, .q (.ld none (.t 13)), []⟩,
 ⟨some 15, none, .q (.ia 12 (.t 14) (.v (.int .i64 0))), []⟩,
 ⟨some 16, none, .q (.ld (some 12) (.t 15)), []⟩,
 ⟨some 17, none, .q (.mv (.t 6)), []⟩,
 ⟨some 18, none, .e (.call 34 [(.t 12), (.t 16), (.t 17)]), []⟩]
def c16_54 : ACode := .ops [
 ⟨some 19, none, .q (.mv (.t 0)), []⟩,
 ⟨some 21, none, .q (.fa 0 (.t 3)), []⟩,
 ⟨some 22, none, .q (.ld none (.t 21)), []⟩,
 ⟨some 23, none, .q (.bin .sub (.t 22) (.v (.int .i64 10))), []⟩,
 ⟨some 20, none, .e (.call 25 []), [⟨none, .ld none (.t 21), 22⟩]⟩,
 ⟨some 24, none, .q (.ia 1 (.t 20) (.t 23)), []⟩,
 ⟨some 25, none, .q (.ld none (.t 24)), []⟩,
 ⟨some 26, none, .e (.call 26 [(.t 19), (.t 25)]), []⟩]
def c16_55 : ACode := .ops [
 ⟨some 27, none, .q (.mv (.t 0)), []⟩,
 ⟨some 28, none, .q (.fa 11 (.t 3)), []⟩,
 ⟨some 29, none, .q (.ld none (.t 28)), []⟩,
 ⟨some 30, none, .q (.ia 12 (.t 29) (.v (.int .i64 1))), []⟩,
 ⟨some 31, none, .q (.ld (some 12) (.t 30)), []⟩,
 ⟨some 32, none, .q (.mv (.t 6)), []⟩,
 ⟨some 33, none, .q (.bin .add (.t 32) (.v (.int .i64 1))), []⟩,
 ⟨some 34, none, .e (.call 34 [(.t 27), (.t 31), (.t 33)]), []⟩]
def c16_56 : ACode := .seq c16_54 c16_55
def c16_57 : ACode := .seq c16_53 c16_56
def c16_58 : ACode := .seq c16_52 c16_57
def c16_59 : ACode := .cond (.t 131) .skip c16_58
def c16_60 : ACode := .seq c16_51 c16_59
def c16_61 : ACode := .cond (.t 105) c16_50 c16_60
def c16_62 : ACode := .seq c16_25 c16_61
def c16_63 : ACode := .cond (.t 95) c16_24 c16_62
def c16_64 : ACode := .seq c16_21 c16_63
def c16_65 : ACode := .cond (.t 80) c16_20 c16_64
def c16_66 : ACode := .seq c16_17 c16_65
def c16_67 : ACode := .cond (.t 70) c16_13 c16_66
def c16_68 : ACode := .seq c16_12 c16_67
def c16_69 : ACode := .cond (.t 63) c16_11 c16_68
def c16_70 : ACode := .seq c16_10 c16_69
def c16_71 : ACode := .cond (.t 57) c16_9 c16_70
def c16_72 : ACode := .seq c16_8 c16_71
def c16_73 : ACode := .cond (.t 49) c16_7 c16_72
def c16_74 : ACode := .seq c16_6 c16_73
def c16_75 : ACode := .cond (.t 42) c16_5 c16_74
def c16_76 : ACode := .seq c16_4 c16_75
def c16_77 : ACode := .cond (.t 35) c16_3 c16_76
def c16_78 : ACode := .seq c16_2 c16_77
def c16_79 : ACode := .block 0 c16_78
def c16_80 : ACode := .seq c16_1 c16_79
def c16_81 : ACode := .seq c16_0 c16_80
@[go_sem] def c16_0_wp := wp_of c16_0.eq_1
@[go_sem] def c16_1_wp := wp_of c16_1.eq_1
@[go_sem] def c16_2_wp := wp_of c16_2.eq_1
@[go_sem] def c16_3_wp := wp_of c16_3.eq_1
@[go_sem] def c16_4_wp := wp_of c16_4.eq_1
@[go_sem] def c16_5_wp := wp_of c16_5.eq_1
@[go_sem] def c16_6_wp := wp_of c16_6.eq_1
@[go_sem] def c16_7_wp := wp_of c16_7.eq_1
@[go_sem] def c16_8_wp := wp_of c16_8.eq_1
@[go_sem] def c16_9_wp := wp_of c16_9.eq_1
@[go_sem] def c16_10_wp := wp_of c16_10.eq_1
@[go_sem] def c16_11_wp := wp_of c16_11.eq_1
@[go_sem] def c16_12_wp := wp_of c16_12.eq_1
@[go_sem] def c16_13_wp := wp_of c16_13.eq_1
@[go_sem] def c16_14_wp := wp_of c16_14.eq_1
@[go_sem] def c16_15_wp := wp_of c16_15.eq_1
@[go_sem] def c16_16_wp := wp_of c16_16.eq_1
@[go_sem] def c16_17_wp := wp_of c16_17.eq_1
@[go_sem] def c16_18_wp := wp_of c16_18.eq_1
@[go_sem] def c16_19_wp := wp_of c16_19.eq_1
@[go_sem] def c16_20_wp := wp_of c16_20.eq_1
@[go_sem] def c16_21_wp := wp_of c16_21.eq_1
@[go_sem] def c16_22_wp := wp_of c16_22.eq_1
@[go_sem] def c16_23_wp := wp_of c16_23.eq_1
@[go_sem] def c16_24_wp := wp_of c16_24.eq_1
@[go_sem] def c16_25_wp := wp_of c16_25.eq_1
@[go_sem] def c16_26_wp := wp_of c16_26.eq_1
@[go_sem] def c16_27_wp := wp_of c16_27.eq_1
@[go_sem] def c16_28_wp := wp_of c16_28.eq_1
@[go_sem] def c16_29_wp := wp_of c16_29.eq_1
@[go_sem] def c16_30_wp := wp_of c16_30.eq_1
@[go_sem] def c16_31_wp := wp_of c16_31.eq_1
@[go_sem] def c16_32_wp := wp_of c16_32.eq_1
@[go_sem] def c16_33_wp := wp_of c16_33.eq_1
@[go_sem] def c16_34_wp := wp_of c16_34.eq_1
@[go_sem] def c16_35_wp := wp_of c16_35.eq_1
@[go_sem] def c16_36_wp := wp_of c16_36.eq_1
@[go_sem] def c16_37_wp := wp_of c16_37.eq_1
@[go_sem] def c16_38_wp := wp_of c16_38.eq_1
@[go_sem] def c16_39_wp := wp_of c16_39.eq_1
@[go_sem] def c16_40_wp := wp_of c16_40.eq_1
@[go_sem] def c16_41_wp := wp_of c16_41.eq_1
@[go_sem] def c16_42_wp := wp_of c16_42.eq_1
@[go_sem] def c16_43_wp := wp_of c16_43.eq_1
@[go_sem] def c16_44_wp := wp_of c16_44.eq_1
@[go_sem] def c16_45_wp := wp_of c16_45.eq_1
@[go_sem] def c16_46_wp := wp_of c16_46.eq_1
@[go_sem] def c16_47_wp := wp_of c16_47.eq_1
@[go_sem] def c16_48_wp := wp_of c16_48.eq_1
@[go_sem] def c16_49_wp := wp_of c16_49.eq_1
@[go_sem] def c16_50_wp := wp_of c16_50.eq_1
@[go_sem] def c16_51_wp := wp_of c16_51.eq_1
@[go_sem] def c16_52_wp := wp_of c16_52.eq_1
@[go_sem] def c16_53_wp := wp_of c16_53.eq_1
@[go_sem] def c16_54_wp := wp_of c16_54.eq_1
@[go_sem] def c16_55_wp := wp_of c16_55.eq_1
@[go_sem] def c16_56_wp := wp_of c16_56.eq_1
@[go_sem] def c16_57_wp := wp_of c16_57.eq_1
@[go_sem] def c16_58_wp := wp_of c16_58.eq_1
@[go_sem] def c16_59_wp := wp_of c16_59.eq_1
@[go_sem] def c16_60_wp := wp_of c16_60.eq_1
@[go_sem] def c16_61_wp := wp_of c16_61.eq_1
@[go_sem] def c16_62_wp := wp_of c16_62.eq_1
@[go_sem] def c16_63_wp := wp_of c16_63.eq_1
@[go_sem] def c16_64_wp := wp_of c16_64.eq_1
@[go_sem] def c16_65_wp := wp_of c16_65.eq_1
@[go_sem] def c16_66_wp := wp_of c16_66.eq_1
@[go_sem] def c16_67_wp := wp_of c16_67.eq_1
@[go_sem] def c16_68_wp := wp_of c16_68.eq_1
@[go_sem] def c16_69_wp := wp_of c16_69.eq_1
@[go_sem] def c16_70_wp := wp_of c16_70.eq_1
@[go_sem] def c16_71_wp := wp_of c16_71.eq_1
@[go_sem] def c16_72_wp := wp_of c16_72.eq_1
@[go_sem] def c16_73_wp := wp_of c16_73.eq_1
@[go_sem] def c16_74_wp := wp_of c16_74.eq_1
@[go_sem] def c16_75_wp := wp_of c16_75.eq_1
@[go_sem] def c16_76_wp := wp_of c16_76.eq_1
@[go_sem] def c16_77_wp := wp_of c16_77.eq_1
@[go_sem] def c16_78_wp := wp_of c16_78.eq_1
@[go_sem] def c16_79_wp := wp_of c16_79.eq_1
@[go_sem] def c16_80_wp := wp_of c16_80.eq_1
@[go_sem] def c16_81_wp := wp_of c16_81.eq_1
def c16 : AFn := ⟨133, [], c16_81⟩
theorem c16_ok : compF Tryz.prog Tryz.f16 = some c16 := by kernel_rfl
theorem a16 {args : List AV} {σ : ASt} {R : AV → ASt → Prop} (hl : args.length ≤ 133) (h : c16_81.wp Tryz.prog (RetQ [] R) (init args) σ) : ACalls Tryz.prog 16 args σ R := acalls_of Tryz.func16 c16_ok hl h
/-! 34: tabular/expr.inside -/
def c34_0 : ACode := .ops [
 ⟨some 4, none, .e (.box (.t 1)), []⟩]
def c34_1 : ACode := .ops [
 ⟨some 6, none, .q (.fa 0 (.t 4)), []⟩,
 ⟨some 7, none, .q (.ld none (.t 6)), []⟩,
 ⟨some 8, none, .e (.call 35 [(.t 7)]), []⟩,
 ⟨some 9, none, .q (.mv (.t 2)), []⟩,
 ⟨some 10, none, .q (.bin .geq (.t 8) (.t 9)), []⟩]
def c34_2 : ACode := .ops [
 ⟨some 11, none, .q (.mv (.t 0)), []⟩,
 ⟨some 12, none, .q (.ld (some 12) (.t 4)), []⟩,
 ⟨some 13, none, .e (.call 16 [(.t 11), (.t 12)]), []⟩]
def c34_3 : ACode := .seq c34_2 .ret
def c34_4 : ACode := .cond (.t 10) c34_3 .skip
def c34_5 : ACode := .seq c34_1 c34_4
def c34_6 : ACode := .ops [
 ⟨some 14, none, .q (.mv (.t 0)), []⟩,
 ⟨some 15, none, .e (.call 33 [(.t 14), (.v (.int .u8 40))]), []⟩]
def c34_7 : ACode := .ops [
 ⟨some 16, none, .q (.mv (.t 0)), []⟩,
 ⟨some 17, none, .q (.ld (some 12) (.t 4)), []⟩,
 ⟨some 18, none, .e (.call 16 [(.t 16), (.t 17)]), []⟩]
def c34_8 : ACode := .ops [
 ⟨some 19, none, .q (.mv (.t 0)), []⟩,
 ⟨some 20, none, .e (.call 33 [(.t 19), (.v (.int .u8 41))]), []⟩]
def c34_9 : ACode := .seq c34_7 c34_8
def c34_10 : ACode := .seq c34_6 c34_9
def c34_11 : ACode := .seq c34_5 c34_10
def c34_12 : ACode := .seq c34_0 c34_11
@[go_sem] def c34_0_wp := wp_of c34_0.eq_1
@[go_sem] def c34_1_wp := wp_of c34_1.eq_1
@[go_sem] def c34_2_wp := wp_of c34_2.eq_1
@[go_sem] def c34_3_wp := wp_of c34_3.eq_1
@[go_sem] def c34_4_wp := wp_of c34_4.eq_1
@[go_sem] def c34_5_wp := wp_of c34_5.eq_1
@[go_sem] def c34_6_wp := wp_of c34_6.eq_1
@[go_sem] def c34_7_wp := wp_of c34_7.eq_1
@[go_sem] def c34_8_wp := wp_of c34_8.eq_1
@[go_sem] def c34_9_wp := wp_of c34_9.eq_1
@[go_sem] def c34_10_wp := wp_of c34_10.eq_1
@[go_sem] def c34_11_wp := wp_of c34_11.eq_1
@[go_sem] def c34_12_wp := wp_of c34_12.eq_1
def c34 : AFn := ⟨21, [], c34_12⟩
theorem c34_ok : compF Tryz.prog Tryz.f34 = some c34 := by kernel_rfl
theorem a34 {args : List AV} {σ : ASt} {R : AV → ASt → Prop} (hl : args.length ≤ 21) (h : c34_12.wp Tryz.prog (RetQ [] R) (init args) σ) : ACalls Tryz.prog 34 args σ R := acalls_of Tryz.func34 c34_ok hl h
end Go.A
namespace Go.A
open Go.Proofs Go.Lib
theorem BD.tab {σ0 σ : ASt} {b : Nat} {l : List UInt8} (h : BD σ0 b l σ) (hb : σ0 b = none) (hT : Tab σ0) : Tab σ := h.at (by intro e; unfold Tab at hT; rw [e, hb] at hT; cases hT) hT
theorem BD.maxL {σ0 σ : ASt} {b : Nat} {l : List UInt8} (h : BD σ0 b l σ) (hb : σ0 b = none) (hM : MaxL σ0) : MaxL σ := by
 obtain ⟨m, hm⟩ := hM
 exact ⟨m, h.at (by intro e; rw [e, hb] at hm; cases hm) hm⟩
theorem MaxL.set {σ : ASt} {b : Nat} {r : Option Role} (h : MaxL σ) (hb : σ b = none) : MaxL (σ.set b r) := by
 obtain ⟨m, hm⟩ := h
 exact ⟨m, by rw [ASt.set_ne]; exact hm; intro e; rw [e, hb] at hm; cases hm⟩
def SpellOk (n : Nd) : Prop := ∀ (σ0 σ : ASt) (b : Nat) (l : List UInt8), BD σ0 b l σ → σ0 b = none → Tab σ0 → MaxL σ0 → l.length + n.spell.length ≤ 900000000 →
  ACalls Tryz.prog 16 [.ptr b 0, n.av] σ fun v σ' => v = .tuple [] ∧ BD σ0 b (l ++ n.spell) σ'
theorem inside_ok {n : Nd} (hs : SpellOk n) (ho : 1 ≤ n.op ∧ n.op ≤ 23) (least : Int) {σ0 σ : ASt} {b : Nat} {l : List UInt8} (h : BD σ0 b l σ) (hb : σ0 b = none) (hT : Tab σ0) (hM : MaxL σ0) (hl : l.length + (insT least n.op n.spell).length ≤ 900000000) :
  ACalls Tryz.prog 34 [.ptr b 0, n.av, .int .i64 least] σ fun v σ' => v = .tuple [] ∧ BD σ0 b (l ++ insT least n.op n.spell) σ' := by
 have hL := level_ok n.op (by omega) (by omega)
 have hS : ∀ {σ0 σ : ASt} {b : Nat} {l : List UInt8}, BD σ0 b l σ → σ0 b = none → Tab σ0 → MaxL σ0 → l.length + n.spell.length ≤ 900000000 →
  ACalls Tryz.prog 16 [.ptr b 0, n.av] σ fun v σ' => v = .tuple [] ∧ BD σ0 b (l ++ n.spell) σ' := fun {_ _ _ _} => hs _ _ _ _
 clear hs
 obtain ⟨op, m, s, a, d, kids⟩ := n
 rw [Nd.av_cs] at hS ⊢
 generalize (Nd.mk op m s a d kids).spell = t at *
 simp only [Nd.op] at hL hl ho ⊢
 generalize kids.map Nd.av = L at *
 refine a34 (by simp) ?_
 simp (disch := first | assumption | omega) only [go_sem]
 refine boxC_by rfl fun c hc => ?_
 obtain ⟨hB, hcb, hc0⟩ := h.add hc (r := .obj (Nd.cs op m s a d L))
 have hb1 : (σ0.set c (some (.obj (Nd.cs op m s a d L)))) b = none := by rw [ASt.set_ne (Ne.symm hcb)]; exact hb
 have hT1 := hT.set hc0 (r := some (.obj (Nd.cs op m s a d L)))
 have hM1 := hM.set hc0 (r := some (.obj (Nd.cs op m s a d L)))
 have hcell : ∀ {l' : List UInt8} {σ1 : ASt}, BD (σ0.set c (some (.obj (Nd.cs op m s a d L)))) b l' σ1 → σ1 c = some (.obj (Nd.cs op m s a d L)) := fun h => h.at hcb (ASt.set_same _ _ _)
 have hoff : ∀ {l' : List UInt8} {σ1 : ASt}, BD (σ0.set c (some (.obj (Nd.cs op m s a d L)))) b l' σ1 → ∃ σ', Drop σ1 σ' ∧ BD σ0 b l' σ' := fun h => h.off hcb hc0
 have hc1 := hcell hB
 rw [cells_agg]
 generalize σ0.set c (some (.obj (Nd.cs op m s a d L))) = τ at hB hb1 hT1 hM1 hcell hoff
 generalize σ.set c (some (.obj (Nd.cs op m s a d L))) = σ1 at hB hc1 ⊢
 unfold insT at hl ⊢
 by_cases hlv : least ≤ levelP op
 ·rw [if_pos hlv] at hl ⊢
  generalize levelP op = lv at *
  simp (disch := first | assumption | omega) only [go_sem, ↓reduceIte, hc1]
  refine hL.use ?_
  simp (disch := first | assumption | omega) only [go_sem, reduceCtorEq, Nat.reduceEqDiff, Nat.reduceLeDiff, ↓reduceIte, hc1, hlv]
  refine (hS hB hb1 hT1 hM1 hl).mono ?_
  rintro v σ2 ⟨rfl, hB2⟩
  simp (disch := first | assumption | omega) only [go_sem]
  obtain ⟨σ3, hd, hB3⟩ := hoff hB2
  exact retC_by hd (.refl _) ⟨rfl, hB3⟩
 ·rw [if_neg hlv] at hl ⊢
  generalize levelP op = lv at *
  simp only [List.length_append, List.length_cons, List.length_nil] at hl
  simp (disch := first | assumption | omega) only [go_sem, ↓reduceIte, hc1]
  refine hL.use ?_
  simp (disch := first | assumption | omega) only [go_sem, reduceCtorEq, Nat.reduceEqDiff, ↓reduceIte, hlv]
  refine (writeByte_ok hB 40 (by omega)).mono ?_
  rintro v σ2 ⟨rfl, hB2⟩
  have hc2 := hcell hB2
  simp (disch := first | assumption | omega) only [go_sem, reduceCtorEq, Nat.reduceEqDiff, Nat.reduceLeDiff, ↓reduceIte, hc2]
  refine (hS hB2 hb1 hT1 hM1 (by simp only [List.length_append, List.length_cons, List.length_nil]; omega)).mono ?_
  rintro v σ3 ⟨rfl, hB3⟩
  simp (disch := first | assumption | omega) only [go_sem, reduceCtorEq, ↓reduceIte]
  refine (writeByte_ok hB3 41 (by simp only [List.length_append, List.length_cons, List.length_nil]; omega)).mono ?_
  rintro v σ4 ⟨rfl, hB4⟩
  simp (disch := first | assumption | omega) only [go_sem]
  obtain ⟨σ5, hd, hB5⟩ := hoff hB4
  refine retC_by hd (.refl _) ⟨rfl, ?_⟩
  have e : l ++ 40 :: (t ++ [41]) = l ++ [40] ++ t ++ [41] := by simp
  rw [e]; exact hB5
theorem textD_ne (n : Int) : textD n ≠ [] := by
 unfold textD
 have := dd_len_pos (n.natAbs / 10000)
 intro h
 rw [List.append_eq_nil_iff, List.append_eq_nil_iff] at h
 exact this h.2.1
theorem failT_ne {n : Int} (h1 : 1 ≤ n.tdiv 10000) (h2 : n.tdiv 10000 ≤ 7) : failT 4 n ≠ [] := by
 unfold failT
 generalize n.tdiv 10000 = i at *
 rw [if_neg (by omega)]
 have hc : i = 1 ∨ i = 2 ∨ i = 3 ∨ i = 4 ∨ i = 5 ∨ i = 6 ∨ i = 7 := by omega
 rcases hc with rfl | rfl | rfl | rfl | rfl | rfl | rfl <;> decide
theorem truthP_ne (b : Bool) : truthP b ≠ [] := by cases b <;> decide
theorem joinC_snoc : ∀ (L : List (Int × List UInt8)) (p : Int × List UInt8), L ≠ [] → joinC (L ++ [p]) = joinC L ++ 44 :: p.2
 | [], p, h => absurd rfl h
 | q :: r, p, _ => by simp [joinC]
theorem joinC_take_le : ∀ (L : List (Int × List UInt8)) (i : Nat), (joinC (L.take i)).length ≤ (joinC L).length
 | [], i => by simp
 | q :: r, 0 => by simp [joinC]
 | q :: r, i + 1 => by
   rw [List.take_succ_cons]
   simp only [joinC, List.length_append]
   have : ∀ (r : List (Int × List UInt8)) (i : Nat), ((r.take i).flatMap fun q => 44 :: q.2).length ≤ (r.flatMap fun q => 44 :: q.2).length := by
    intro r
    induction r with
    | nil => intro i; simp
    | cons x r ih =>
      intro i
      cases i with
      | zero => simp
      | succ i => rw [List.take_succ_cons, List.flatMap_cons, List.flatMap_cons, List.length_append, List.length_append]; have := ih i; omega
   have := this r i
   omega
theorem textP_ne {r : Ref} (h : r.good = true) : textP r ≠ [] := by
 intro e
 have := (text_len h).1
 rw [e] at this
 simp at this
theorem sign_len (k : Nat) : (signL.getD k []).length ≤ 2 := by
 unfold signL
 rcases k with _|_|_|_|_|_|_|_|_|_|_|_|k <;> simp
set_option maxHeartbeats 2000000 in
theorem spell_ok : ∀ (k : Nat) (n : Nd), n.size ≤ k → n.ok → SpellOk n
 | 0, n, hk, _ => by have := n.size_pos; omega
 | k + 1, n, hk, hn => by
   have ih := spell_ok k
   intro σ0 σ b l h hb hT hM hl
   obtain ⟨op, m, s, a, d, kids⟩ := n
   rw [Nd.size] at hk
   rw [Nd.ok] at hn
   obtain ⟨⟨ho, g1, g2, g4, gc, g5, g6, g7, gb, gk⟩, hks⟩ := hn
   have hkid : ∀ x ∈ kids, SpellOk x ∧ 1 ≤ x.op ∧ x.op ≤ 23 := fun x hx => by
    have h1 := Nd.size_kid hx
    have h2 := Nd.oks_mem.1 hks x hx
    refine ⟨ih x (by omega) h2, ?_⟩
    obtain ⟨o', _, _, _, _, _⟩ := x
    rw [Nd.ok] at h2
    exact h2.1.1
   obtain ⟨w, hw⟩ : ∃ w, (Nd.mk op m s a d kids).spell = w := ⟨_, rfl⟩
   rw [hw] at hl ⊢
   rw [Nd.spell, Nd.spells_map] at hw
   unfold spellK at hw
   rw [Nd.av_cs]
   refine a16 (by simp) ?_
   simp (disch := first | assumption | omega) only [go_sem]
   refine boxC_by rfl fun c hc => ?_
   obtain ⟨hB, hcb, hc0⟩ := h.add hc (r := .obj (Nd.cs op m s a d (kids.map Nd.av)))
   have hb1 : (σ0.set c (some (.obj (Nd.cs op m s a d (kids.map Nd.av))))) b = none := by rw [ASt.set_ne (Ne.symm hcb)]; exact hb
   have hT1 := hT.set hc0 (r := some (.obj (Nd.cs op m s a d (kids.map Nd.av))))
   have hM1 := hM.set hc0 (r := some (.obj (Nd.cs op m s a d (kids.map Nd.av))))
   have hcell : ∀ {l' : List UInt8} {σ1 : ASt}, BD (σ0.set c (some (.obj (Nd.cs op m s a d (kids.map Nd.av))))) b l' σ1 → σ1 c = some (.obj (Nd.cs op m s a d (kids.map Nd.av))) := fun h => h.at hcb (ASt.set_same _ _ _)
   have hoff : ∀ {l' : List UInt8} {σ1 : ASt}, BD (σ0.set c (some (.obj (Nd.cs op m s a d (kids.map Nd.av))))) b l' σ1 → ∃ σ', Drop σ1 σ' ∧ BD σ0 b l' σ' := fun h => h.off hcb hc0
   have hc1 := hcell hB
   rw [cells_agg]
   generalize σ0.set c (some (.obj (Nd.cs op m s a d (kids.map Nd.av)))) = τ at hB hb1 hT1 hM1 hcell hoff
   generalize σ.set c (some (.obj (Nd.cs op m s a d (kids.map Nd.av)))) = σ1 at hB hc1 ⊢
   have hT2 := BD.tab hB hb1 hT1
   have hM2 := BD.maxL hB hb1 hM1
   by_cases h1 : op = 1
   ·subst h1
    rw [if_pos rfl] at hw
    subst hw
    simp (disch := first | assumption | omega) only [go_sem, reduceCtorEq, Nat.reduceEqDiff, ↓reduceIte, hc1]
    refine (dtext_ok hT2 (g1 rfl)).mono ?_
    rintro v σ' ⟨rfl, rfl⟩
    simp (disch := first | assumption | omega) only [go_sem, Nat.reduceEqDiff, ↓reduceIte]
    refine (writes1_ok hB _ (textD_ne m) (by omega)).mono ?_
    rintro v σ2 ⟨rfl, hB2⟩
    simp (disch := first | assumption | omega) only [go_sem]
    obtain ⟨σ3, hd, hB3⟩ := hoff hB2
    exact retC_by hd (.refl _) ⟨rfl, hB3⟩
   rw [if_neg h1] at hw
   by_cases h2 : op = 2
   ·subst h2
    rw [if_pos rfl] at hw
    have hQ2 := tquote_ok hM2 s (g2 rfl)
    have hQ : quotT s = 34 :: dbl s ++ [34] := rfl
    rw [hQ] at hw
    rw [hw] at hQ2
    have hwn : w ≠ [] := by rw [← hw]; simp
    simp (disch := first | assumption | omega) only [go_sem, reduceCtorEq, Nat.reduceEqDiff, Int.reduceEq, ↓reduceIte, hc1]
    refine hQ2.mono ?_
    rintro v σ' ⟨rfl, rfl⟩
    simp (disch := first | assumption | omega) only [go_sem, Nat.reduceEqDiff, ↓reduceIte]
    refine (writes1_ok hB _ hwn (by omega)).mono ?_
    rintro v σ2 ⟨rfl, hB2⟩
    simp (disch := first | assumption | omega) only [go_sem]
    obtain ⟨σ3, hd, hB3⟩ := hoff hB2
    exact retC_by hd (.refl _) ⟨rfl, hB3⟩
   rw [if_neg h2] at hw
   by_cases h3 : op = 3
   ·subst h3
    rw [if_pos rfl] at hw
    have hQ := truth_ok (!decide (m = 0))
    have hwn : w ≠ [] := by rw [← hw]; exact truthP_ne _
    rw [hw] at hQ
    simp (disch := first | assumption | omega) only [go_sem, reduceCtorEq, Nat.reduceEqDiff, Int.reduceEq, ↓reduceIte, hc1]
    refine hQ.use ?_
    simp (disch := first | assumption | omega) only [go_sem, Nat.reduceEqDiff, ↓reduceIte]
    refine (writes1_ok hB _ hwn (by omega)).mono ?_
    rintro v σ2 ⟨rfl, hB2⟩
    simp (disch := first | assumption | omega) only [go_sem]
    obtain ⟨σ3, hd, hB3⟩ := hoff hB2
    exact retC_by hd (.refl _) ⟨rfl, hB3⟩
   rw [if_neg h3] at hw
   by_cases h4 : op = 4
   ·subst h4
    rw [if_pos rfl] at hw
    obtain ⟨f1, f2⟩ := g4 rfl
    have hwn : w ≠ [] := by rw [← hw]; exact failT_ne f1 f2
    have hmb : m.natAbs ≤ 999999999999999999 := by have : (m.tdiv 10000).natAbs = m.natAbs / 10000 := Int.natAbs_tdiv m 10000; omega
    have hQ := failure_ok 4 m s a d kids hmb
    rw [Nd.av_cs, hw] at hQ
    simp (disch := first | assumption | omega) only [go_sem, reduceCtorEq, Nat.reduceEqDiff, Nat.reduceLeDiff, Int.reduceEq, ↓reduceIte, hc1]
    refine hQ.use ?_
    simp (disch := first | assumption | omega) only [go_sem, Nat.reduceEqDiff, ↓reduceIte]
    refine (writes1_ok hB _ hwn (by omega)).mono ?_
    rintro v σ2 ⟨rfl, hB2⟩
    simp (disch := first | assumption | omega) only [go_sem]
    obtain ⟨σ3, hd, hB3⟩ := hoff hB2
    exact retC_by hd (.refl _) ⟨rfl, hB3⟩
   rw [if_neg h4] at hw
   by_cases h5 : op = 5
   ·subst h5
    rw [if_pos rfl] at hw
    have hQ := text_ok hT2 (g5 (.inl rfl))
    have hwn : w ≠ [] := by rw [← hw]; exact textP_ne (g5 (.inl rfl))
    rw [hw] at hQ
    unfold refAV at hQ
    simp (disch := first | assumption | omega) only [go_sem, reduceCtorEq, Nat.reduceEqDiff, Nat.reduceAdd, Nat.reduceLeDiff, Int.reduceEq, ↓reduceIte, hc1]
    refine hQ.mono ?_
    rintro v σ' ⟨rfl, rfl⟩
    simp (disch := first | assumption | omega) only [go_sem, Nat.reduceEqDiff, ↓reduceIte]
    refine (writes1_ok hB _ hwn (by omega)).mono ?_
    rintro v σ2 ⟨rfl, hB2⟩
    simp (disch := first | assumption | omega) only [go_sem]
    obtain ⟨σ3, hd, hB3⟩ := hoff hB2
    exact retC_by hd (.refl _) ⟨rfl, hB3⟩
   rw [if_neg h5] at hw
   by_cases h6 : op = 6
   ·subst h6
    rw [if_pos rfl] at hw
    have hQ := atext_ok hT2 (g5 (.inr rfl)) (g6 rfl)
    have hwn : w ≠ [] := by rw [← hw]; simp
    rw [hw] at hQ
    unfold areaAV at hQ
    simp (disch := first | assumption | omega) only [go_sem, reduceCtorEq, Nat.reduceEqDiff, Nat.reduceAdd, Nat.reduceLeDiff, Int.reduceEq, ↓reduceIte, hc1]
    refine hQ.mono ?_
    rintro v σ' ⟨rfl, rfl⟩
    simp (disch := first | assumption | omega) only [go_sem, Nat.reduceEqDiff, ↓reduceIte]
    refine (writes1_ok hB _ hwn (by omega)).mono ?_
    rintro v σ2 ⟨rfl, hB2⟩
    simp (disch := first | assumption | omega) only [go_sem]
    obtain ⟨σ3, hd, hB3⟩ := hoff hB2
    exact retC_by hd (.refl _) ⟨rfl, hB3⟩
   rw [if_neg h6] at hw
   by_cases h7 : op = 7 ∨ op = 8
   ·rw [if_pos h7] at hw
    obtain ⟨x, ks, rfl⟩ : ∃ x ks, kids = x :: ks := by
     cases kids with
     | nil => have := g7 (by omega); simp at this
     | cons x ks => exact ⟨x, ks, rfl⟩
    obtain ⟨i1, i2⟩ := hkid x (by simp)
    have hI := fun l' σ' (hB : BD τ b l' σ') hl' => inside_ok i1 i2 6 hB hb1 hT1 hM1 hl'
    simp only [List.map_cons, List.getD_cons_zero] at hw
    generalize insT 6 x.op x.spell = t at *
    obtain ⟨xo, xm, xs, xa, xb, xk⟩ := x
    simp only [List.map_cons] at hcell hc1 ⊢
    rw [Nd.av_cs] at hI
    simp only [Nd.av_cs] at hcell hc1 ⊢
    generalize ks.map Nd.av = K at *
    rcases h7 with rfl | rfl
    ·simp only [if_true] at hw
     subst hw
     simp only [List.length_cons] at hl
     simp (disch := first | assumption | omega) only [go_sem, reduceCtorEq, Nat.reduceEqDiff, Int.reduceEq, ↓reduceIte, Int.reduceSub, hc1]
     refine (writeByte_ok hB 45 (by omega)).mono ?_
     rintro v σ2 ⟨rfl, hB2⟩
     have hc2 := hcell hB2
     simp (disch := first | assumption | omega) only [go_sem, reduceCtorEq, Nat.reduceEqDiff, Nat.reduceLeDiff, ↓reduceIte, hc2]
     refine (hI _ _ hB2 (by simp only [List.length_append, List.length_cons, List.length_nil]; omega)).mono ?_
     rintro v σ3 ⟨rfl, hB3⟩
     simp (disch := first | assumption | omega) only [go_sem]
     obtain ⟨σ4, hd, hB4⟩ := hoff hB3
     refine retC_by hd (.refl _) ⟨rfl, ?_⟩
     have e : l ++ 45 :: t = l ++ [45] ++ t := by simp
     rw [e]; exact hB4
    ·rw [if_neg (by decide)] at hw
     subst hw
     simp only [List.length_cons] at hl
     simp (disch := first | assumption | omega) only [go_sem, reduceCtorEq, Nat.reduceEqDiff, Int.reduceEq, ↓reduceIte, Int.reduceSub, Int.reduceToNat, hc1]
     refine (writeByte_ok hB 43 (by omega)).mono ?_
     rintro v σ2 ⟨rfl, hB2⟩
     have hc2 := hcell hB2
     simp (disch := first | assumption | omega) only [go_sem, reduceCtorEq, Nat.reduceEqDiff, Nat.reduceLeDiff, ↓reduceIte, hc2]
     refine (hI _ _ hB2 (by simp only [List.length_append, List.length_cons, List.length_nil]; omega)).mono ?_
     rintro v σ3 ⟨rfl, hB3⟩
     simp (disch := first | assumption | omega) only [go_sem]
     obtain ⟨σ4, hd, hB4⟩ := hoff hB3
     refine retC_by hd (.refl _) ⟨rfl, ?_⟩
     have e : l ++ 43 :: t = l ++ [43] ++ t := by simp
     rw [e]; exact hB4
   rw [if_neg h7] at hw
   have h7a : op ≠ 7 := by omega
   have h7b : op ≠ 8 := by omega
   by_cases h9 : op = 9
   ·subst h9
    rw [if_pos rfl] at hw
    obtain ⟨x, ks, rfl⟩ : ∃ x ks, kids = x :: ks := by
     cases kids with
     | nil => have := g7 (by omega); simp at this
     | cons x ks => exact ⟨x, ks, rfl⟩
    obtain ⟨i1, i2⟩ := hkid x (by simp)
    have hI := fun l' σ' (hB : BD τ b l' σ') hl' => inside_ok i1 i2 7 hB hb1 hT1 hM1 hl'
    simp only [List.map_cons, List.getD_cons_zero] at hw
    generalize insT 7 x.op x.spell = t at *
    obtain ⟨xo, xm, xs, xa, xb, xk⟩ := x
    rw [Nd.av_cs] at hI
    simp only [List.map_cons, Nd.av_cs] at hcell hc1 ⊢
    generalize ks.map Nd.av = K at *
    subst hw
    simp only [List.length_append, List.length_cons, List.length_nil] at hl
    simp (disch := first | assumption | omega) only [go_sem, reduceCtorEq, Nat.reduceEqDiff, Nat.reduceLeDiff, Int.reduceEq, ↓reduceIte, hc1]
    refine (hI _ _ hB (by omega)).mono ?_
    rintro v σ2 ⟨rfl, hB2⟩
    simp (disch := first | assumption | omega) only [go_sem, reduceCtorEq, ↓reduceIte]
    refine (writeByte_ok hB2 37 (by simp only [List.length_append]; omega)).mono ?_
    rintro v σ3 ⟨rfl, hB3⟩
    simp (disch := first | assumption | omega) only [go_sem]
    obtain ⟨σ4, hd, hB4⟩ := hoff hB3
    refine retC_by hd (.refl _) ⟨rfl, ?_⟩
    rw [← List.append_assoc]; exact hB4
   rw [if_neg h9] at hw
   by_cases h22 : op = 22
   ·subst h22
    rw [if_pos rfl] at hw
    have hsn := gc rfl
    have hjt := joinC_take_le (kids.map fun x => (x.op, x.spell))
    have hspl : ∀ (i : Nat) (x : Nd), kids[i]? = some x → (kids.map fun x => (x.op, x.spell)).take (i + 1) = (kids.map fun x => (x.op, x.spell)).take i ++ [(x.op, x.spell)] := by
     intro i x hx
     have hlt : i < kids.length := (List.getElem?_eq_some_iff.1 hx).1
     rw [List.take_add_one, List.getElem?_map, hx]
     rfl
    have hspn : ∀ i, 0 < i → i < kids.length → (kids.map fun x => (x.op, x.spell)).take i ≠ [] := by
     intro i h0 h1 e
     have := congrArg List.length e
     rw [List.length_take, List.length_map, List.length_nil] at this
     omega
    have hspa : (kids.map fun x => (x.op, x.spell)).take kids.length = kids.map fun x => (x.op, x.spell) := List.take_of_length_le (by simp)
    have hspz : joinC ((kids.map fun x => (x.op, x.spell)).take 0) = [] := rfl
    generalize (kids.map fun x => (x.op, x.spell)) = sp at *
    subst hw
    simp only [List.length_append, List.length_cons, List.length_nil] at hl
    simp (disch := first | assumption | omega) only [go_sem, reduceCtorEq, Nat.reduceEqDiff, Int.reduceEq, ↓reduceIte, hc1]
    refine (writes1_ok hB _ hsn (by omega)).mono ?_
    rintro v σ2 ⟨rfl, hB2⟩
    simp (disch := first | assumption | omega) only [go_sem, reduceCtorEq, ↓reduceIte]
    refine (writeByte_ok hB2 40 (by simp only [List.length_append]; omega)).mono ?_
    rintro v σ3 ⟨rfl, hB3⟩
    have hc3 := hcell hB3
    obtain ⟨G, hG⟩ : ∃ G, G = ACode.wp Tryz.prog c16_47 := ⟨_, rfl⟩
    simp (disch := first | assumption | omega) only [go_sem, Nat.reduceEqDiff, ↓reduceIte, hc3, ←hG]
    refine wp_loop_by (fun (i : Nat) a1 s2 => i ≤ kids.length ∧ (a1 0 = .ptr b 0 ∧ a1 114 = .sl .shr (kids.map Nd.av) ∧ a1 115 = .int .i64 kids.length ∧ a1 116 = .int .i64 i) ∧ BD τ b (l ++ s ++ [40] ++ joinC (sp.take i)) s2) (fun i => kids.length - i) 0 (Dr.now ⟨Nat.zero_le _, ?_, ?_⟩) ?_
    ·simp (disch := first | assumption | omega) only [go_sem, reduceCtorEq, Nat.reduceEqDiff, ↓reduceIte]
    ·rw [hspz, List.append_nil]; exact hB3
    rintro i a1 s2 ⟨hi, hf, hBi⟩
    have hji := hjt i
    by_cases hlt : i < kids.length
    ·have hlt' : (i : Int) < kids.length := by omega
     have hx : kids[i]? = some (kids[i]'hlt) := List.getElem?_eq_getElem hlt
     obtain ⟨x, hxe⟩ : ∃ x, kids[i]'hlt = x := ⟨_, rfl⟩
     rw [hxe] at hx
     have hmx := Nd.get hx
     have hspx := hspl i x hx
     have hjs := hjt (i + 1)
     obtain ⟨i1, i2⟩ := hkid x (List.mem_of_getElem? hx)
     obtain ⟨xo, xm, xs, xa, xb, xk⟩ := x
     rw [Nd.av_cs] at hmx
     have i1' : ∀ (σ0 σ : ASt) (b : Nat) (l : List UInt8), BD σ0 b l σ → σ0 b = none → Tab σ0 → MaxL σ0 → l.length + (Nd.mk xo xm xs xa xb xk).spell.length ≤ 900000000 →
       ACalls Tryz.prog 16 [.ptr b 0, .agg (Nd.cs xo xm xs xa xb (xk.map Nd.av))] σ fun v σ' => v = .tuple [] ∧ BD σ0 b (l ++ (Nd.mk xo xm xs xa xb xk).spell) σ' := by rw [← Nd.av_cs]; exact i1
     generalize hxw : (Nd.mk xo xm xs xa xb xk).spell = xw at *
     generalize xk.map Nd.av = K at *
     generalize kids.map Nd.av = L at *
     simp (disch := first | assumption | omega) only [go_sem, Nat.reduceEqDiff, Nat.reduceLeDiff, ↓reduceIte, hf, hlt', hmx]
     refine allocC_by fun e he => ?_
     obtain ⟨hBe, heb, he0⟩ := hBi.add he (r := .obj (Nd.cs xo xm xs xa xb K))
     have hbe : (τ.set e (some (.obj (Nd.cs xo xm xs xa xb K)))) b = none := by rw [ASt.set_ne (Ne.symm heb)]; exact hb1
     have hTe := hT1.set he0 (r := some (.obj (Nd.cs xo xm xs xa xb K)))
     have hMe := hM1.set he0 (r := some (.obj (Nd.cs xo xm xs xa xb K)))
     have hcelle : ∀ {l' : List UInt8} {σ1 : ASt}, BD (τ.set e (some (.obj (Nd.cs xo xm xs xa xb K)))) b l' σ1 → σ1 e = some (.obj (Nd.cs xo xm xs xa xb K)) := fun h => h.at heb (ASt.set_same _ _ _)
     have hoffe : ∀ {l' : List UInt8} {σ1 : ASt}, BD (τ.set e (some (.obj (Nd.cs xo xm xs xa xb K)))) b l' σ1 → ∃ σ', Drop σ1 σ' ∧ BD τ b l' σ' := fun h => h.off heb he0
     have hce := hcelle hBe
     by_cases h0 : i = 0
     ·subst h0
      have hz : ((0 : Nat) : Int) = 0 := rfl
      have hj1 : joinC (sp.take (0 + 1)) = xw := by rw [hspx]; simp [joinC]
      rw [hj1] at hjs
      rw [hspz, List.append_nil] at hBe
      simp (disch := first | assumption | omega) only [go_sem, reduceCtorEq, Nat.reduceEqDiff, Nat.reduceAdd, Nat.reduceLeDiff, Int.reduceLT, ↓reduceIte, hf, hz, ASt.set_set, hce]
      refine (i1' _ _ _ _ hBe hbe hTe hMe (by simp only [List.length_append, List.length_cons, List.length_nil]; omega)).mono ?_
      rintro v σ4 ⟨rfl, hB4⟩
      simp (disch := first | assumption | omega) only [go_sem, Nat.reduceEqDiff, ↓reduceIte, Int.reduceAdd, hf]
      obtain ⟨σ5, hd, hB5⟩ := hoffe hB4
      refine ⟨0 + 1, by dsimp only; omega, Dr.drop hd ⟨by omega, ?_, ?_⟩⟩
      ·simp (disch := first | assumption | omega) only [go_sem, reduceCtorEq, Nat.reduceEqDiff, ↓reduceIte, hf]
      ·rw [hj1]; exact hB5
     ·have h0' : (0 : Int) < i := by omega
      have hj1 : joinC (sp.take (i + 1)) = joinC (sp.take i) ++ 44 :: xw := by rw [hspx, joinC_snoc _ _ (hspn i (by omega) hlt)]
      rw [hj1] at hjs
      simp only [List.length_append, List.length_cons] at hjs
      simp (disch := first | assumption | omega) only [go_sem, reduceCtorEq, Nat.reduceEqDiff, Nat.reduceAdd, Nat.reduceLeDiff, ↓reduceIte, hf, h0', ASt.set_set]
      refine (writeByte_ok hBe 44 (by simp only [List.length_append, List.length_cons, List.length_nil]; omega)).mono ?_
      rintro v σ4 ⟨rfl, hB4⟩
      have hc4 := hcelle hB4
      simp (disch := first | assumption | omega) only [go_sem, reduceCtorEq, Nat.reduceEqDiff, Nat.reduceLeDiff, ↓reduceIte, hf, hc4]
      refine (i1' _ _ _ _ hB4 hbe hTe hMe (by simp only [List.length_append, List.length_cons, List.length_nil]; omega)).mono ?_
      rintro v σ5 ⟨rfl, hB5⟩
      simp (disch := first | assumption | omega) only [go_sem, Nat.reduceEqDiff, ↓reduceIte, hf]
      obtain ⟨σ6, hd, hB6⟩ := hoffe hB5
      refine ⟨i + 1, by dsimp only; omega, Dr.drop hd ⟨by omega, ?_, ?_⟩⟩
      ·simp (disch := first | assumption | omega) only [go_sem, reduceCtorEq, Nat.reduceEqDiff, ↓reduceIte, hf]
      ·have e2 : l ++ s ++ [40] ++ joinC (sp.take (i + 1)) = l ++ s ++ [40] ++ joinC (sp.take i) ++ [44] ++ xw := by rw [hj1]; simp
       rw [e2]; exact hB6
    ·have hlt' : ¬ (i : Int) < kids.length := by omega
     have hie : i = kids.length := by omega
     rw [hie, hspa] at hBi
     simp (disch := first | assumption | omega) only [go_sem, ↓reduceIte, hf, hlt']
     rw [hG]
     simp (disch := first | assumption | omega) only [go_sem, reduceCtorEq, ↓reduceIte, hf]
     refine (writeByte_ok hBi 41 (by simp only [List.length_append, List.length_cons, List.length_nil]; omega)).mono ?_
     rintro v σ4 ⟨rfl, hB4⟩
     simp (disch := first | assumption | omega) only [go_sem]
     obtain ⟨σ5, hd, hB5⟩ := hoff hB4
     refine retC_by hd (.refl _) ⟨rfl, ?_⟩
     have e2 : l ++ (s ++ 40 :: (joinC sp ++ [41])) = l ++ s ++ [40] ++ joinC sp ++ [41] := by simp
     first
      | (rw [e2]; exact hB5)
      | (have e3 : l ++ (s ++ 40 :: joinC sp ++ [41]) = l ++ s ++ [40] ++ joinC sp ++ [41] := by simp
         rw [e3]; exact hB5)
   rw [if_neg h22] at hw
   by_cases h23 : op = 23
   ·subst h23
    rw [if_pos rfl] at hw
    subst hw
    simp (disch := first | assumption | omega) only [go_sem, Nat.reduceEqDiff, Int.reduceEq, ↓reduceIte, hc1]
    obtain ⟨σ3, hd, hB3⟩ := hoff hB
    exact retC_by hd (.refl _) ⟨rfl, hB3⟩
   rw [if_neg h23] at hw
   obtain ⟨x, y, ks, rfl⟩ : ∃ x y ks, kids = x :: y :: ks := by
    have := gb (by omega)
    match kids, this with
    | x :: y :: ks, _ => exact ⟨x, y, ks, rfl⟩
   obtain ⟨i1, i2⟩ := hkid x (by simp)
   obtain ⟨j1, j2⟩ := hkid y (by simp)
   have hI := fun l' σ' (hB : BD τ b l' σ') hl' => inside_ok i1 i2 (levelP op) hB hb1 hT1 hM1 hl'
   have hJ := fun l' σ' (hB : BD τ b l' σ') hl' => inside_ok j1 j2 (levelP op + 1) hB hb1 hT1 hM1 hl'
   have hLv := level_ok op (by omega) (by omega)
   have hlb : 0 ≤ levelP op ∧ levelP op ≤ 8 := by unfold levelP; repeat' split
                                                  all_goals omega
   simp only [List.map_cons, List.getD_cons_zero, List.getD_cons_succ] at hw
   generalize insT (levelP op) x.op x.spell = t at *
   generalize insT (levelP op + 1) y.op y.spell = u at *
   generalize levelP op = lv at *
   obtain ⟨xo, xm, xs, xa, xb, xk⟩ := x
   obtain ⟨yo, ym, ys, ya, yb, yk⟩ := y
   rw [Nd.av_cs] at hI hJ
   simp only [List.map_cons, Nd.av_cs] at hcell hc1 ⊢
   generalize ks.map Nd.av = K at *
   obtain ⟨j, hj⟩ : ∃ j : Nat, op = j + 10 := ⟨(op - 10).toNat, by omega⟩
   have hj2 : (op - 10).toNat = j := by omega
   have hj3 : op - 10 = (j : Int) := by omega
   rw [hj2] at hw
   have hjl : j < 12 := by omega
   obtain ⟨sg, hsg⟩ : ∃ sg, signL[j]? = some sg := ⟨signL[j]'(by simp [signL]; omega), List.getElem?_eq_getElem _⟩
   have hsg2 : signL.getD j [] = sg := by rw [List.getD_eq_getElem?_getD, hsg]; rfl
   have hsl := sign_len j
   have hsn : sg ≠ [] := by
    have : ∀ j < 12, signL.getD j [] ≠ [] := by decide
    rw [← hsg2]; exact this j hjl
   rw [hsg2] at hw hsl
   have hmg : (signL.map AV.str)[j]? = some (.str sg) := by rw [List.getElem?_map, hsg]; rfl
   have hSg := esigns_ok
   generalize signL.map AV.str = SL at *
   subst hw
   simp only [List.length_append] at hl
   simp (disch := first | assumption | omega) only [go_sem, Nat.reduceEqDiff, ↓reduceIte, hc1, h1, h2, h3, h4, h5, h6, h7a, h7b, h9, h22, h23]
   refine hLv.use ?_
   simp (disch := first | assumption | omega) only [go_sem, reduceCtorEq, Nat.reduceEqDiff, Nat.reduceLeDiff, ↓reduceIte, hc1]
   refine (hI _ _ hB (by omega)).mono ?_
   rintro v σ2 ⟨rfl, hB2⟩
   have hc2 := hcell hB2
   simp (disch := first | assumption | omega) only [go_sem, reduceCtorEq, Nat.reduceEqDiff, ↓reduceIte, hc2]
   refine hSg.use ?_
   simp (disch := first | assumption | omega) only [go_sem, Nat.reduceEqDiff, ↓reduceIte, hc2, hj3, hmg]
   refine (writes1_ok hB2 _ hsn (by simp only [List.length_append]; omega)).mono ?_
   rintro v σ3 ⟨rfl, hB3⟩
   have hc3 := hcell hB3
   simp (disch := first | assumption | omega) only [go_sem, reduceCtorEq, Nat.reduceEqDiff, Nat.reduceLeDiff, ↓reduceIte, Int.reduceToNat, hc3]
   refine (hJ _ _ hB3 (by simp only [List.length_append]; omega)).mono ?_
   rintro v σ4 ⟨rfl, hB4⟩
   simp (disch := first | assumption | omega) only [go_sem]
   obtain ⟨σ5, hd, hB5⟩ := hoff hB4
   refine retC_by hd (.refl _) ⟨rfl, ?_⟩
   have e : l ++ (t ++ (sg ++ u)) = l ++ t ++ sg ++ u := by simp
   first
    | (rw [e]; exact hB5)
    | (rw [← List.append_assoc, ← List.append_assoc]; exact hB5)
end Go.A
namespace Go.A
open Go.Proofs
/-! 8: tabular/expr.Print -/
def c8_0 : ACode := .ops [
 ⟨some 1, none, .e (.box (.t 0)), []⟩,
 ⟨some 2, none, .q (.mv (.v (.str []))), []⟩]
def c8_1 : ACode := .ops [
 ⟨some 3, none, .e (.allocT 55), []⟩]
def c8_2 : ACode := .ops [
 ⟨some 4, none, .q (.ld (some 12) (.t 1)), []⟩,
 ⟨some 5, none, .e (.call 16 [(.t 3), (.t 4)]), []⟩]
def c8_3 : ACode := .ops [
 ⟨some 6, none, .e (.call 17 [(.t 3)]), []⟩,
 ⟨some 2, none, .q (.mv (.t 6)), []⟩]
def c8_4 : ACode := .seq c8_3 .ret
def c8_5 : ACode := .seq c8_2 c8_4
def c8_6 : ACode := .seq c8_1 c8_5
def c8_7 : ACode := .seq c8_0 c8_6
@[go_sem] def c8_0_wp := wp_of c8_0.eq_1
@[go_sem] def c8_1_wp := wp_of c8_1.eq_1
@[go_sem] def c8_2_wp := wp_of c8_2.eq_1
@[go_sem] def c8_3_wp := wp_of c8_3.eq_1
@[go_sem] def c8_4_wp := wp_of c8_4.eq_1
@[go_sem] def c8_5_wp := wp_of c8_5.eq_1
@[go_sem] def c8_6_wp := wp_of c8_6.eq_1
@[go_sem] def c8_7_wp := wp_of c8_7.eq_1
def c8 : AFn := ⟨7, [.t 2], c8_7⟩
theorem c8_ok : compF Tryz.prog Tryz.f8 = some c8 := by kernel_rfl
theorem a8 {args : List AV} {σ : ASt} {R : AV → ASt → Prop} (hl : args.length ≤ 7) (h : c8_7.wp Tryz.prog (RetQ [.t 2] R) (init args) σ) : ACalls Tryz.prog 8 args σ R := acalls_of Tryz.func8 c8_ok hl h
end Go.A
namespace Go.A
open Go.Proofs Go.Lib
theorem print_ok {σ : ASt} (hT : Tab σ) (hM : MaxL σ) (n : Nd) (hn : n.ok) (hl : n.spell.length ≤ 900000000) : ACalls Tryz.prog 8 [n.av] σ fun v σ' => v = .str n.spell ∧ σ' = σ := by
 have hS := spell_ok n.size n (Nat.le_refl _) hn
 obtain ⟨op, m, s, a, d, kids⟩ := n
 unfold SpellOk at hS
 rw [Nd.av_cs] at hS ⊢
 generalize (Nd.mk op m s a d kids).spell = w at *
 generalize kids.map Nd.av = L at *
 refine a8 (by simp) ?_
 simp (disch := first | assumption | omega) only [go_sem]
 refine boxC_by rfl fun c hc => ?_
 simp (disch := first | assumption | omega) only [go_sem]
 refine allocTC_by fun b hb => ?_
 have hbb := hb
 obtain ⟨n1, n2, n3⟩ := set_none hb
 have hB : BD (σ.set c (some (.obj (Nd.cs op m s a d L)))) b [] ((σ.set c (some (.obj (Nd.cs op m s a d L)))).set b (some (.typ 55 [.pointer none, .slice none 0 0]))) := .inl ⟨rfl, rfl⟩
 have hT1 := hT.set hc (r := some (.obj (Nd.cs op m s a d L)))
 have hM1 := hM.set hc (r := some (.obj (Nd.cs op m s a d L)))
 simp (disch := first | assumption | omega) only [go_sem, Nat.reduceEqDiff, Nat.reduceLeDiff, ↓reduceIte]
 refine (hS _ _ _ _ hB hbb hT1 hM1 (by simp only [List.length_nil]; omega)).mono ?_
 rintro v σ1 ⟨rfl, hB1⟩
 rw [List.nil_append] at hB1
 simp (disch := first | assumption | omega) only [go_sem, Nat.reduceEqDiff, ↓reduceIte]
 refine (bstring_ok hB1 (by omega)).mono ?_
 rintro v σ2 ⟨rfl, rfl⟩
 simp (disch := first | assumption | omega) only [go_sem, ↓reduceIte]
 exact retC_by ((hB1.over hbb).drop.trans (Drop.set hc)) (.refl _) ⟨rfl, rfl⟩
theorem SDrop.cong {σ σ' : ASt} {b : Nat} {c d : List AV} (h : SDrop σ σ') (he : Go.A.deeps c = d) : SDrop (σ.set b (some (.obj c))) (σ'.set b (some (.obj d))) := fun x => by
 by_cases hx : x = b
 ·subst hx
  exact .inr (.inr ⟨c, by rw [ASt.set_same], by rw [ASt.set_same, he]⟩)
 ·rw [ASt.set_ne hx, ASt.set_ne hx]
  exact h x
theorem set_mid {σ : ASt} {b c : Nat} {X Y Z : Option Role} (h : b ≠ c) : ((σ.set b X).set c Y).set b Z = (σ.set b Z).set c Y := by
 funext x
 simp only [ASt.set]
 by_cases h1 : x = b
 ·subst h1; simp [h]
 ·simp [h1]
end Go.A
namespace Go.A
open Go.Proofs
/-! 9: tabular/expr.Same -/
def c9_0 : ACode := .ops [
 ⟨some 2, none, .e (.box (.t 0)), []⟩,
 ⟨some 3, none, .e (.box (.t 1)), []⟩,
 ⟨some 4, none, .q (.mv (.v (.bool false))), []⟩]
def c9_1 : ACode := .ops [
 ⟨some 5, none, .q (.fa 0 (.t 2)), []⟩,
 ⟨some 6, none, .q (.ld none (.t 5)), []⟩,
 ⟨some 7, none, .q (.fa 0 (.t 3)), []⟩,
 ⟨some 8, none, .q (.ld none (.t 7)), []⟩,
 ⟨some 9, none, .q (.bin .eql (.t 6) (.t 8)), []⟩,
 ⟨some 10, none, .q (.mv (.t 9)), []⟩,
 ⟨some 11, some (10, true), .q (.fa 1 (.t 2)), []⟩,
 ⟨some 12, some (10, true), .q (.ld none (.t 11)), []⟩,
 ⟨some 13, some (10, true), .q (.fa 1 (.t 3)), []⟩,
 ⟨some 14, some (10, true), .q (.ld none (.t 13)), []⟩,
 ⟨some 15, some (10, true), .q (.bin .eql (.t 12) (.t 14)), []⟩,
 ⟨some 16, none, .q (.pick (.t 10) (.t 15) (.v (.bool false))), []⟩,
 ⟨some 17, none, .q (.mv (.t 16)), []⟩,
 ⟨some 18, some (17, true), .q (.fa 2 (.t 2)), []⟩,
 ⟨some 19, some (17, true), .q (.ld none (.t 18)), []⟩,
 ⟨some 20, some (17, true), .q (.fa 2 (.t 3)), []⟩,
 ⟨some 21, some (17, true), .q (.ld none (.t 20)), []⟩,
 ⟨some 22, some (17, true), .q (.bin .eql (.t 19) (.t 21)), []⟩,
 ⟨some 23, none, .q (.pick (.t 17) (.t 22) (.v (.bool false))), []⟩,
 ⟨some 24, none, .q (.mv (.t 23)), []⟩,
 ⟨some 25, some (24, true), .q (.fa 3 (.t 2)), []⟩,
 ⟨some 26, some (24, true), .q (.ld (some 4) (.t 25)), []⟩,
 ⟨some 27, some (24, true), .q (.fa 3 (.t 3)), []⟩,
 ⟨some 28, some (24, true), .q (.ld (some 4) (.t 27)), []⟩,
 ⟨some 29, some (24, true), .q (.eqs false [(0, 0), (1, 0), (2, 1), (3, 1)] (.t 26) (.t 28)), []⟩,
 ⟨some 30, none, .q (.pick (.t 24) (.t 29) (.v (.bool false))), []⟩,
 ⟨some 31, none, .q (.mv (.t 30)), []⟩,
 ⟨some 32, some (31, true), .q (.fa 7 (.t 2)), []⟩,
 ⟨some 33, some (31, true), .q (.ld (some 4) (.t 32)), []⟩,
 ⟨some 34, some (31, true), .q (.fa 7 (.t 3)), []⟩,
 ⟨some 35, some (31, true), .q (.ld (some 4) (.t 34)), []⟩,
 ⟨some 36, some (31, true), .q (.eqs false [(0, 0), (1, 0), (2, 1), (3, 1)] (.t 33) (.t 35)), []⟩,
 ⟨some 37, none, .q (.pick (.t 31) (.t 36) (.v (.bool false))), []⟩,
 ⟨some 38, none, .q (.mv (.t 37)), []⟩,
 ⟨some 39, some (38, true), .q (.fa 11 (.t 2)), []⟩,
 ⟨some 40, some (38, true), .q (.ld none (.t 39)), []⟩,
 ⟨some 41, some (38, true), .q (.fa 11 (.t 3)), []⟩,
 ⟨some 42, some (38, true), .q (.ld none (.t 41)), []⟩,
 ⟨some 43, some (38, true), .e (.call 18 [(.t 40), (.t 42), (.v (.func (.func 9) [] []))]), []⟩,
 ⟨some 44, none, .q (.pick (.t 38) (.t 43) (.v (.bool false))), []⟩,
 ⟨some 4, none, .q (.mv (.t 44)), []⟩]
def c9_2 : ACode := .seq c9_1 .ret
def c9_3 : ACode := .seq c9_0 c9_2
@[go_sem] def c9_0_wp := wp_of c9_0.eq_1
@[go_sem] def c9_1_wp := wp_of c9_1.eq_1
@[go_sem] def c9_2_wp := wp_of c9_2.eq_1
@[go_sem] def c9_3_wp := wp_of c9_3.eq_1
def c9 : AFn := ⟨45, [.t 4], c9_3⟩
theorem c9_ok : compF Tryz.prog Tryz.f9 = some c9 := by kernel_rfl
theorem a9 {args : List AV} {σ : ASt} {R : AV → ASt → Prop} (hl : args.length ≤ 45) (h : c9_3.wp Tryz.prog (RetQ [.t 4] R) (init args) σ) : ACalls Tryz.prog 9 args σ R := acalls_of Tryz.func9 c9_ok hl h
/-! 18: slices.EqualFunc[[]tabular/expr.Node,[]tabular/expr.Node,tabular/expr.Node,tabular/expr.Node] -/
def c18_0 : ACode := .ops [
 ⟨some 6, none, .q (.mv (.v (.bool false))), []⟩]
def c18_1 : ACode := .ops [
 ⟨some 10, none, .q (.mv (.t 0)), []⟩,
 ⟨some 11, none, .q (.len (.t 10)), []⟩,
 ⟨some 12, none, .q (.mv (.t 1)), []⟩,
 ⟨some 13, none, .q (.len (.t 12)), []⟩,
 ⟨some 14, none, .q (.bin .neq (.t 11) (.t 13)), []⟩]
def c18_2 : ACode := .ops [
 ⟨some 6, none, .q (.mv (.v (.bool false))), []⟩]
def c18_3 : ACode := .seq c18_2 .ret
def c18_4 : ACode := .cond (.t 14) c18_3 .skip
def c18_5 : ACode := .seq c18_1 c18_4
def c18_6 : ACode := .ops [
 ⟨some 15, none, .q (.mv (.t 0)), []⟩,
 ⟨some 16, none, .q (.len (.t 15)), []⟩,
 ⟨some 17, none, .q (.mv (.v (.int .i64 0))), []⟩]
def c18_7 : ACode := .ops [
 ⟨some 18, none, .q (.bin .lss (.t 17) (.t 16)), []⟩]
def c18_8 : ACode := .cond (.t 18) .skip (.exit 0)
def c18_9 : ACode := .ops [
 ⟨some 19, none, .q (.mv (.t 17)), []⟩,
 ⟨some 20, none, .q (.ia 12 (.t 15) (.t 17)), []⟩,
 ⟨some 21, none, .q (.ld (some 12) (.t 20)), []⟩,
 ⟨some 8, none, .e (.alloc [(.int .i64 0), (.int .i64 0), (.str []), (.int .i64 0), (.int .i64 0), (.bool false), (.bool false), (.int .i64 0), (.int .i64 0), (.bool false), (.bool false), (.sl .full [])]), []⟩,
 ⟨some 7, none, .q (.mv (.t 19)), []⟩,
 ⟨none, none, .e (.store 12 (.t 8) (.t 21)), []⟩]
def c18_10 : ACode := .ops [
 ⟨some 22, none, .q (.mv (.t 1)), []⟩,
 ⟨some 23, none, .q (.mv (.t 7)), []⟩,
 ⟨some 24, none, .q (.ia 12 (.t 22) (.t 23)), []⟩,
 ⟨some 25, none, .q (.ld (some 12) (.t 24)), []⟩,
 ⟨some 9, none, .e (.alloc [(.int .i64 0), (.int .i64 0), (.str []), (.int .i64 0), (.int .i64 0), (.bool false), (.bool false), (.int .i64 0), (.int .i64 0), (.bool false), (.bool false), (.sl .full [])]), []⟩,
 ⟨none, none, .e (.store 12 (.t 9) (.t 25)), []⟩]
def c18_11 : ACode := .ops [
 ⟨some 26, none, .q (.mv (.t 2)), []⟩,
 ⟨some 27, none, .q (.ld (some 12) (.t 8)), []⟩,
 ⟨some 28, none, .q (.ld (some 12) (.t 9)), []⟩,
 ⟨some 29, none, .e (.callv (.t 26) [(.t 27), (.t 28)]), []⟩,
 ⟨some 30, none, .q (.un .not (.t 29)), []⟩]
def c18_12 : ACode := .ops [
 ⟨some 6, none, .q (.mv (.v (.bool false))), []⟩]
def c18_13 : ACode := .seq c18_12 .ret
def c18_14 : ACode := .cond (.t 30) c18_13 .skip
def c18_15 : ACode := .seq c18_11 c18_14
def c18_16 : ACode := .seq c18_10 c18_15
def c18_17 : ACode := .seq c18_9 c18_16
def c18_18 : ACode := .block 1 c18_17
def c18_19 : ACode := .ops [
 ⟨some 31, none, .q (.bin .add (.t 17) (.v (.int .i64 1))), []⟩,
 ⟨some 17, none, .q (.mv (.t 31)), []⟩]
def c18_20 : ACode := .seq c18_18 c18_19
def c18_21 : ACode := .seq c18_8 c18_20
def c18_22 : ACode := .seq c18_7 c18_21
def c18_23 : ACode := .loop c18_22
def c18_24 : ACode := .block 0 c18_23
def c18_25 : ACode := .seq c18_6 c18_24
def c18_26 : ACode := .ops [
 ⟨some 6, none, .q (.mv (.v (.bool true))), []⟩]
def c18_27 : ACode := .seq c18_26 .ret
def c18_28 : ACode := .seq c18_25 c18_27
def c18_29 : ACode := .seq c18_5 c18_28
def c18_30 : ACode := .seq c18_0 c18_29
@[go_sem] def c18_0_wp := wp_of c18_0.eq_1
@[go_sem] def c18_1_wp := wp_of c18_1.eq_1
@[go_sem] def c18_2_wp := wp_of c18_2.eq_1
@[go_sem] def c18_3_wp := wp_of c18_3.eq_1
@[go_sem] def c18_4_wp := wp_of c18_4.eq_1
@[go_sem] def c18_5_wp := wp_of c18_5.eq_1
@[go_sem] def c18_6_wp := wp_of c18_6.eq_1
@[go_sem] def c18_7_wp := wp_of c18_7.eq_1
@[go_sem] def c18_8_wp := wp_of c18_8.eq_1
@[go_sem] def c18_9_wp := wp_of c18_9.eq_1
@[go_sem] def c18_10_wp := wp_of c18_10.eq_1
@[go_sem] def c18_11_wp := wp_of c18_11.eq_1
@[go_sem] def c18_12_wp := wp_of c18_12.eq_1
@[go_sem] def c18_13_wp := wp_of c18_13.eq_1
@[go_sem] def c18_14_wp := wp_of c18_14.eq_1
@[go_sem] def c18_15_wp := wp_of c18_15.eq_1
@[go_sem] def c18_16_wp := wp_of c18_16.eq_1
@[go_sem] def c18_17_wp := wp_of c18_17.eq_1
@[go_sem] def c18_18_wp := wp_of c18_18.eq_1
@[go_sem] def c18_19_wp := wp_of c18_19.eq_1
@[go_sem] def c18_20_wp := wp_of c18_20.eq_1
@[go_sem] def c18_21_wp := wp_of c18_21.eq_1
@[go_sem] def c18_22_wp := wp_of c18_22.eq_1
@[go_sem] def c18_23_wp := wp_of c18_23.eq_1
@[go_sem] def c18_24_wp := wp_of c18_24.eq_1
@[go_sem] def c18_25_wp := wp_of c18_25.eq_1
@[go_sem] def c18_26_wp := wp_of c18_26.eq_1
@[go_sem] def c18_27_wp := wp_of c18_27.eq_1
@[go_sem] def c18_28_wp := wp_of c18_28.eq_1
@[go_sem] def c18_29_wp := wp_of c18_29.eq_1
@[go_sem] def c18_30_wp := wp_of c18_30.eq_1
def c18 : AFn := ⟨32, [.t 6], c18_30⟩
theorem c18_ok : compF Tryz.prog Tryz.f18 = some c18 := by kernel_rfl
theorem a18 {args : List AV} {σ : ASt} {R : AV → ASt → Prop} (hl : args.length ≤ 32) (h : c18_30.wp Tryz.prog (RetQ [.t 6] R) (init args) σ) : ACalls Tryz.prog 18 args σ R := acalls_of Tryz.func18 c18_ok hl h
end Go.A
namespace Go.A
def OwnSl (σ0 σ : ASt) (v : AV) (xs : List AV) (s : Nat) : Prop :=
 (xs = [] ∧ v = .sl .full [] ∧ σ = σ0) ∨ ∃ b c rest, v = .msl b 0 xs.length c ∧ xs.length ≤ c ∧ rest.length = (c - xs.length) * s ∧ σ0 b = none ∧ σ = σ0.set b (some (.obj (xs.flatMap AV.cells ++ rest)))
theorem OwnSl.drop {σ0 σ : ASt} {v : AV} {xs : List AV} {s : Nat} (h : OwnSl σ0 σ v xs s) : Drop σ σ0 := by
 rcases h with ⟨_, _, rfl⟩ | ⟨b, c, rest, _, _, _, hb, rfl⟩
 ·exact Drop.refl _
 ·exact Drop.set hb
def zrow (s : Nat) (z : List AV) (n c : Nat) : List AV := (List.range ((c - n) * s)).map fun i => z.getD (i % s) .any
theorem zrow_len (s : Nat) (z : List AV) (n c : Nat) : (zrow s z n c).length = (c - n) * s := by simp [zrow]
theorem ownRow_z {s n c : Nat} {z cs : List AV} : ownRow s z cs n c = cs ++ zrow s z n c := rfl
theorem OwnSl.app {e : TypeId} {σ0 σ : ASt} {v : AV} {xs ys z : List AV} {s bytes : Nat} {k2 : SK} {K : AV → ASt → Prop} (h : OwnSl σ0 σ v xs s) (hx : ∀ x ∈ xs, x.cells.length = s) (h2 : wellSz s ys = true) (h3 : leaves (ys.flatMap AV.cells) = true)
  (h4 : (xs.length + ys.length) * bytes ≤ 140737488355328) (h5 : xs.length + ys.length ≤ 4611686018427387904) (h6 : 0 < ys.length)
  (hK : ∀ v' σ', (∃ σ2, Drop σ' σ2 ∧ OwnSl σ0 σ2 v' (xs ++ ys) s) → K v' σ') : appC e s bytes z v (.sl k2 ys) σ K := by
 have hyl : (ys.flatMap AV.cells).length = ys.length * s := lens_flat (wellSz_lens h2)
 have hxl : (xs.flatMap AV.cells).length = xs.length * s := lens_flat hx
 rcases h with ⟨rfl, rfl, rfl⟩ | ⟨b, c, rest, rfl, hc, hr, hb, rfl⟩
 ·refine appO_by rfl h2 h3 h4 h5 h6 fun b c hb hc => hK _ _ ⟨_, Drop.refl _, .inr ⟨b, c, zrow s z (([] : List AV).length + ys.length) c, ?_, ?_, ?_, hb, ?_⟩⟩
  ·simp
  ·simpa using hc
  ·rw [zrow_len]; simp
  ·rw [ownRow_z]; simp only [List.nil_append, List.flatMap_nil]
 ·rw [appC_msl, ASt.set_same]
  refine appM_by h2 h3 h4 h5 (by rw [List.length_append, hxl, hr]; omega) (fun hroom => ⟨?_, ?_⟩) (fun hgrow b' c' hb' hc' => ?_)
  ·rw [List.length_append, hxl, hr, Nat.zero_add, ← Nat.add_mul]
   exact Nat.mul_le_mul_right _ (by omega)
  ·rw [ASt.set_set]
   refine hK _ _ ⟨_, Drop.refl _, .inr ⟨b, c, rest.drop (ys.length * s), by simp, by simpa using hroom, ?_, hb, ?_⟩⟩
   ·rw [List.length_drop, hr, ← Nat.sub_mul, List.length_append]
    congr 1
    omega
   ·congr 3
    unfold splice
    rw [Nat.zero_add, List.flatMap_append]
    have e1 : (xs.flatMap AV.cells ++ rest).take (xs.length * s) = xs.flatMap AV.cells := by rw [← hxl]; simp
    have e2 : (xs.flatMap AV.cells ++ rest).drop (xs.length * s + ys.length * s) = rest.drop (ys.length * s) := by rw [← hxl, ← List.drop_drop]; simp
    rw [e1, e2]
  ·obtain ⟨m1, m2, hb0⟩ := set_none hb'
   have e1 : ((xs.flatMap AV.cells ++ rest).drop 0).take (xs.length * s) = xs.flatMap AV.cells := by rw [← hxl]; simp
   rw [e1]
   refine hK _ _ ⟨σ0.set b' (some (.obj (ownRow s z (xs.flatMap AV.cells ++ ys.flatMap AV.cells) (xs.length + ys.length) c'))), ?_, .inr ⟨b', c', zrow s z (xs.length + ys.length) c', by simp, by simpa using hc', by rw [zrow_len, List.length_append], hb0, ?_⟩⟩
   ·rw [set_swap m2]
    exact Drop.set (by rw [ASt.set_ne m2]; exact hb)
   ·rw [ownRow_z, List.flatMap_append]
theorem OwnSl.at {σ0 σ : ASt} {x : Nat} {r : Role} {v : AV} {xs : List AV} {s : Nat} (h : OwnSl σ0 σ v xs s) (hx : σ0 x = some r) : σ x = some r := by
 rcases h with ⟨_, _, rfl⟩ | ⟨b, c, rest, _, _, _, hb, rfl⟩
 ·exact hx
 ·rw [ASt.set_ne]
  ·exact hx
  ·rintro rfl; rw [hb] at hx; cases hx
end Go.A
namespace Go.A
open Go.Proofs Go.Lib
mutual
def Nd.same : Nd → Nd → Bool
 | .mk o n s a b ks, .mk o' n' s' a' b' ks' => decide (o = o') && decide (n = n') && decide (s = s') && decide (a = a') && decide (b = b') && Nd.sames ks ks'
def Nd.sames : List Nd → List Nd → Bool
 | [], [] => true
 | [], _ :: _ => false
 | _ :: _, [] => false
 | x :: xs, y :: ys => Nd.same x y && Nd.sames xs ys
end
mutual
theorem Nd.same_eq : ∀ (x y : Nd), Nd.same x y = true → x = y
 | .mk o n s a b ks, .mk o' n' s' a' b' ks', h => by
   rw [Nd.same] at h
   simp only [Bool.and_eq_true, decide_eq_true_eq] at h
   obtain ⟨⟨⟨⟨⟨rfl, rfl⟩, rfl⟩, rfl⟩, rfl⟩, h⟩ := h
   rw [Nd.sames_eq ks ks' h]
theorem Nd.sames_eq : ∀ (xs ys : List Nd), Nd.sames xs ys = true → xs = ys
 | [], [], _ => rfl
 | [], _ :: _, h => by cases h
 | _ :: _, [], h => by cases h
 | x :: xs, y :: ys, h => by
   rw [Nd.sames, Bool.and_eq_true] at h
   rw [Nd.same_eq x y h.1, Nd.sames_eq xs ys h.2]
end
mutual
theorem Nd.same_refl : ∀ x : Nd, Nd.same x x = true
 | .mk o n s a b ks => by rw [Nd.same, Nd.sames_refl ks]; simp
theorem Nd.sames_refl : ∀ xs : List Nd, Nd.sames xs xs = true
 | [] => rfl
 | x :: xs => by rw [Nd.sames, Nd.same_refl x, Nd.sames_refl xs]; rfl
end
theorem Nd.sames_len : ∀ {xs ys : List Nd}, Nd.sames xs ys = true → xs.length = ys.length := fun h => by rw [Nd.sames_eq _ _ h]
theorem Nd.sames_get {xs ys : List Nd} {i : Nat} {x y : Nd} (hx : xs[i]? = some x) (hy : ys[i]? = some y) (h : Nd.sames xs ys = true) : Nd.same x y = true := by
 rw [Nd.sames_eq _ _ h, hy] at hx
 injection hx with hx
 rw [hx]; exact Nd.same_refl _
theorem Nd.sames_all : ∀ {xs ys : List Nd}, xs.length = ys.length → (∀ (i : Nat) x y, xs[i]? = some x → ys[i]? = some y → Nd.same x y = true) → Nd.sames xs ys = true
 | [], [], _, _ => rfl
 | [], _ :: _, h, _ => by simp at h
 | _ :: _, [], h, _ => by simp at h
 | x :: xs, y :: ys, h, hs => by
   rw [Nd.sames, hs 0 x y rfl rfl, Nd.sames_all (by simpa using h) fun i u v hu hv => hs (i + 1) u v (by simpa using hu) (by simpa using hv)]
   rfl
theorem equal_ok (xs ys : List Nd) (hl : xs.length ≤ 1000000000 ∧ ys.length ≤ 1000000000) (ih : ∀ x ∈ xs, ∀ y ∈ ys, Pure Tryz.prog 9 [x.av, y.av] (.bool (Nd.same x y))) :
  Pure Tryz.prog 18 [.sl .shr (xs.map Nd.av), .sl .shr (ys.map Nd.av), .func (.func 9) [] []] (.bool (Nd.sames xs ys)) := by
 intro σ
 refine a18 (by simp) ?_
 by_cases hne : xs.length = ys.length
 ·have hne' : ¬ ((xs.length : Int) ≠ ys.length) := by omega
  have hne2 : (xs.length : Int) = ys.length := by omega
  simp (disch := first | assumption | omega) only [go_sem, reduceCtorEq, Nat.reduceEqDiff, ↓reduceIte, hne2]
  refine wp_loop_by (fun (i : Nat) a1 s2 => (i ≤ xs.length ∧ ∀ k x y, k < i → xs[k]? = some x → ys[k]? = some y → Nd.same x y = true) ∧ (a1 1 = .sl .shr (ys.map Nd.av) ∧ a1 2 = .func (.func 9) [] [] ∧ a1 15 = .sl .shr (xs.map Nd.av) ∧ a1 16 = .int .i64 xs.length ∧ a1 17 = .int .i64 i) ∧ s2 = σ) (fun i => xs.length - i) 0 (Dr.now ⟨⟨Nat.zero_le _, fun k x y h => by omega⟩, ?_, rfl⟩) ?_
  ·simp (disch := first | assumption | omega) only [go_sem, Nat.reduceEqDiff, ↓reduceIte, hne2]
  rintro i a1 s2 ⟨⟨hi, hall⟩, hf, rfl⟩
  by_cases hlt : i < xs.length
  ·have hlt' : (i : Int) < xs.length := by omega
   have hx : xs[i]? = some (xs[i]'hlt) := List.getElem?_eq_getElem hlt
   have hy : ys[i]? = some (ys[i]'(by omega)) := List.getElem?_eq_getElem (by omega)
   have hih := ih _ (List.getElem_mem hlt) _ (List.getElem_mem (h := by omega) : ys[i]'(by omega) ∈ ys)
   obtain ⟨x, hxe⟩ : ∃ x, xs[i]'hlt = x := ⟨_, rfl⟩
   obtain ⟨y, hye⟩ : ∃ y, ys[i]'(by omega) = y := ⟨_, rfl⟩
   rw [hxe] at hx hih
   rw [hye] at hy hih
   have hmx := Nd.get hx
   have hmy := Nd.get hy
   obtain ⟨r, hr⟩ : ∃ r, Nd.same x y = r := ⟨_, rfl⟩
   rw [hr] at hih
   obtain ⟨xo, xm, xs', xa, xb, xk⟩ := x
   obtain ⟨yo, ym, ys', ya, yb, yk⟩ := y
   rw [Nd.av_cs] at hmx
   rw [Nd.av_cs] at hmy
   rw [Nd.av_cs, Nd.av_cs] at hih
   generalize xk.map Nd.av = XK at *
   generalize yk.map Nd.av = YK at *
   generalize hXL : xs.map Nd.av = XL at *
   generalize hYL : ys.map Nd.av = YL at *
   have hok : okFn Tryz.prog 9 = true := by kernel_rfl
   simp (disch := first | assumption | omega) only [go_sem, Nat.reduceEqDiff, Nat.reduceLeDiff, ↓reduceIte, hf, hlt', hmx]
   refine allocC_by fun d hd => ?_
   have hd0 := hd
   simp (disch := first | assumption | omega) only [go_sem, Nat.reduceEqDiff, Nat.reduceAdd, Nat.reduceLeDiff, ↓reduceIte, hf, hmy, ASt.set_set]
   refine allocC_by fun e he => ?_
   have he0 := he
   repeat (with_reducible replace he := set_none he; obtain ⟨_, _, he⟩ := he)
   simp (disch := first | assumption | omega) only [go_sem, Nat.reduceEqDiff, Nat.reduceAdd, Nat.reduceLeDiff, ↓reduceIte, hf, ASt.set_set]
   refine ⟨hok, hih.use ?_⟩
   cases r with
   | true =>
     simp (disch := first | assumption | omega) only [go_sem, Nat.reduceEqDiff, ↓reduceIte, hf]
     refine ⟨i + 1, by dsimp only; omega, Dr.drop ((Drop.set hd).off (by assumption)) ⟨⟨by omega, fun k u v hk hu hv => ?_⟩, ?_, rfl⟩⟩
     ·by_cases hki : k = i
      ·subst hki
       rw [hx] at hu; rw [hy] at hv
       injection hu with hu; injection hv with hv
       subst hu hv; exact hr
      ·exact hall k u v (by omega) hu hv
     ·simp (disch := first | assumption | omega) only [go_sem, Nat.reduceEqDiff, ↓reduceIte, hf]
   | false =>
     have hfin : Nd.sames xs ys = false := by
      cases h : Nd.sames xs ys with
      | false => rfl
      | true => rw [Nd.sames_get hx hy h] at hr; cases hr
     simp (disch := first | assumption | omega) only [go_sem, ↓reduceIte]
     exact retC_by ((Drop.set hd).off (by assumption)) (.refl _) ⟨by rw [hfin]; rfl, rfl⟩
  ·have hlt' : ¬ (i : Int) < xs.length := by omega
   have hfin : Nd.sames xs ys = true := Nd.sames_all hne fun k u v hu hv => hall k u v (by have := (List.getElem?_eq_some_iff.1 hu).1; omega) hu hv
   simp (disch := first | assumption | omega) only [go_sem, ↓reduceIte, hf, hlt']
   exact retC_by (Drop.refl _) (.refl _) ⟨by rw [hfin]; rfl, rfl⟩
 ·have hne2 : ¬ (xs.length : Int) = ys.length := by omega
  have hfin : Nd.sames xs ys = false := by
   cases h : Nd.sames xs ys with
   | false => rfl
   | true => exact absurd (Nd.sames_len h) hne
  simp (disch := first | assumption | omega) only [go_sem, reduceCtorEq, Nat.reduceEqDiff, ↓reduceIte, hne2]
  exact retC_by (Drop.refl _) (.refl _) ⟨by rw [hfin]; rfl, rfl⟩
theorem ref_ne {a b : Ref} (h : a ≠ b) : (decide (a.row = b.row) && (decide (a.col = b.col) && (decide (a.absRow = b.absRow) && decide (a.absCol = b.absCol)))) = false := by
 obtain ⟨a1, a2, a3, a4⟩ := a
 obtain ⟨b1, b2, b3, b4⟩ := b
 cases hd : (decide (a1 = b1) && (decide (a2 = b2) && (decide (a3 = b3) && decide (a4 = b4)))) with
 | false => rfl
 | true =>
   simp only [Bool.and_eq_true, decide_eq_true_eq] at hd
   obtain ⟨rfl, rfl, rfl, rfl⟩ := hd
   exact absurd rfl h
theorem esame_le : ∀ (k : Nat) (x y : Nd), x.size ≤ k → x.size ≤ 1000000000 → y.size ≤ 1000000000 → Pure Tryz.prog 9 [x.av, y.av] (.bool (Nd.same x y))
 | 0, x, y, hk, _, _ => by have := x.size_pos; omega
 | k + 1, x, y, hk, hx, hy => by
   intro σ
   obtain ⟨o, n, s, a, b, ks⟩ := x
   obtain ⟨o', n', s', a', b', ks'⟩ := y
   rw [Nd.size] at hk hx hy
   have l1 := sizes_len ks
   have l2 := sizes_len ks'
   have hE := equal_ok ks ks' ⟨by omega, by omega⟩ fun u hu v hv => by
    have h1 := Nd.size_kid hu
    have h2 := Nd.size_kid hv
    exact esame_le k u v (by omega) (by omega) (by omega)
   rw [Nd.av_cs, Nd.av_cs, Nd.same]
   generalize Nd.sames ks ks' = r at *
   generalize ks.map Nd.av = L at *
   generalize ks'.map Nd.av = L' at *
   refine a9 (by simp) ?_
   simp (disch := first | assumption | omega) only [go_sem]
   refine boxC_by rfl fun c hc => ?_
   simp (disch := first | assumption | omega) only [go_sem, Nat.reduceEqDiff, ↓reduceIte]
   refine boxC_by rfl fun d hd => ?_
   have hd0 := hd
   repeat (with_reducible replace hd := set_none hd; obtain ⟨_, _, hd⟩ := hd)
   have hD : ∀ r r' : Option Role, Drop ((σ.set c r).set d r') σ := fun r r' => (Drop.set hc).off (by assumption)
   by_cases h1 : o = o'
   ·by_cases h2 : n = n'
    ·by_cases h3 : s = s'
     ·by_cases h4 : a = a'
      ·by_cases h5 : b = b'
       ·subst h1 h2 h3 h4 h5
        simp (disch := first | assumption | omega) only [go_sem, Nat.reduceEqDiff, Nat.reduceAdd, Nat.reduceLeDiff, ↓reduceIte, Bool.true_and, eq_self]
        refine hE.use ?_
        simp (disch := first | assumption | omega) only [go_sem, Nat.reduceEqDiff, ↓reduceIte, eq_self]
        refine retC_by (hD _ _) (.refl _) ⟨?_, rfl⟩
        first | rfl | (show AV.bool _ = AV.bool _; simp)
       ·have h5' := ref_ne h5
        subst h1 h2 h3 h4
        simp (disch := first | assumption | omega) only [go_sem, Nat.reduceEqDiff, Nat.reduceAdd, Nat.reduceLeDiff, ↓reduceIte, Bool.true_and, Bool.false_and, Bool.and_false, eq_self, h5']
        refine retC_by (hD _ _) (.refl _) ⟨?_, rfl⟩
        first | rfl | (show AV.bool _ = AV.bool _; simp [h5])
      ·have h4' := ref_ne h4
       subst h1 h2 h3
       simp (disch := first | assumption | omega) only [go_sem, Nat.reduceEqDiff, Nat.reduceAdd, Nat.reduceLeDiff, ↓reduceIte, Bool.true_and, Bool.false_and, Bool.and_false, eq_self, h4']
       refine retC_by (hD _ _) (.refl _) ⟨?_, rfl⟩
       first | rfl | (show AV.bool _ = AV.bool _; simp [h4])
     ·subst h1 h2
      simp (disch := first | assumption | omega) only [go_sem, Nat.reduceEqDiff, ↓reduceIte, Bool.true_and, Bool.false_and, Bool.and_false, eq_self, h3]
      refine retC_by (hD _ _) (.refl _) ⟨?_, rfl⟩
      first | rfl | (show AV.bool _ = AV.bool _; simp [h3])
    ·subst h1
     simp (disch := first | assumption | omega) only [go_sem, Nat.reduceEqDiff, ↓reduceIte, Bool.false_and, Bool.and_false, eq_self, h2]
     refine retC_by (hD _ _) (.refl _) ⟨?_, rfl⟩
     first | rfl | (show AV.bool _ = AV.bool _; simp [h2])
   ·simp (disch := first | assumption | omega) only [go_sem, Nat.reduceEqDiff, ↓reduceIte, Bool.false_and, h1]
    refine retC_by (hD _ _) (.refl _) ⟨?_, rfl⟩
    first | rfl | (show AV.bool _ = AV.bool _; simp [h1])
theorem esame_ok (x y : Nd) (hx : x.size ≤ 1000000000) (hy : y.size ≤ 1000000000) : Pure Tryz.prog 9 [x.av, y.av] (.bool (Nd.same x y)) := esame_le x.size x y (Nat.le_refl _) hx hy
end Go.A
namespace Go.A
open Go.Proofs Go.Lib
structure Rc where
 row : Int
 col : Int
 rows : Int
 cols : Int
 deriving DecidableEq, Inhabited
end Go.A
namespace Go.A
open Go.Proofs
/-! 19: tabular/tabularlaw12.grow -/
/-! 36: tabular/tabularref11.Signs -/
/-! 37: tabular/tabularlaw12.place -/
/-! 60: tabular/tabularref11.Sign -/
/-! 81: tabular/tabularref11.more -/
end Go.A
namespace Go.A
open Go.Proofs Go.Lib
structure Pt where
 op : Int
 n : Int
 s : List UInt8
 a : Ref
 b : Ref
 deriving Inhabited
def missN : Nd := .mk 23 0 [] .zero .zero []
end Go.A
namespace Go.A
open Go.Proofs Go.Lib
def zero12 : List AV := [.int .i64 0, .int .i64 0, .str [], .int .i64 0, .int .i64 0, .bool false, .bool false, .int .i64 0, .int .i64 0, .bool false, .bool false, .sl .full []]
theorem OwnSl.put {σ0 σ : ASt} {d : Nat} {r : Role} {v : AV} {xs : List AV} {s : Nat} (h : OwnSl σ0 σ v xs s) (hd : σ0 d = some r) (r' : Option Role) : OwnSl (σ0.set d r') (σ.set d r') v xs s := by
 rcases h with ⟨h1, h2, rfl⟩ | ⟨b, c, rest, h1, h2, h3, h4, rfl⟩
 ·exact .inl ⟨h1, h2, rfl⟩
 ·have hbd : b ≠ d := by rintro rfl; rw [hd] at h4; cases h4
  exact .inr ⟨b, c, rest, h1, h2, h3, by rw [ASt.set_ne hbd]; exact h4, set_swap hbd⟩
theorem Drop.had {σ σ' : ASt} {b : Nat} {r : Role} (h : Drop σ σ') (hb : σ' b = some r) : σ b = some r := by
 rcases h b with h1 | h1
 ·rw [← h1]; exact hb
 ·rw [h1] at hb; cases hb
theorem Drop.nil {σ σ' : ASt} {b : Nat} (h : Drop σ σ') (hb : σ b = none) : σ' b = none := by
 rcases h b with h1 | h1
 ·rw [h1]; exact hb
 ·exact h1
end Go.A
namespace Go.A
open Go.Proofs Go.Lib
structure PSt where
 i : Nat
 deep : Int
 err : Int
 bad : Int
 deriving DecidableEq
def endT : Tok := ⟨0, [], 0, 0⟩
def zN : Nd := .mk 0 0 [] .zero .zero []
section
variable (T : List Tok)
def PSt.next (s : PSt) : PSt := { s with i := s.i + 1 }
def curT (s : PSt) : Tok := if s.err ≠ 0 then endT else T.getD s.i endT
def failP (s : PSt) (e : Int) : PSt := if s.err = 0 then { s with err := e, bad := ((T.getD s.i endT).at' : Nat) } else s
def isOp (s : PSt) (x : List UInt8) : Bool := decide ((curT T s).kind = 6) && decide ((curT T s).text = x)
def mustP (s : PSt) (x : List UInt8) : PSt := if isOp T s x then s.next else failP T s 10
def enterP (s : PSt) : PSt := if 40 < s.deep + 1 then failP T { s with deep := s.deep + 1 } 12 else { s with deep := s.deep + 1 }
def leaveP (s : PSt) : PSt := { s with deep := s.deep - 1 }
def stepP1 (s : PSt) : PSt := if s.err = 0 then s.next else s
def levelsL : List (List (List UInt8)) := [[[61], [60, 62], [60], [60, 61], [62], [62, 61]], [[38]], [[43], [45]], [[42], [47]], [[94]]]
def idxS (x : List UInt8) : List (List UInt8) → Nat → Int
 | [], _ => -1
 | y :: l, i => if x = y then i else idxS x l (i + 1)
def idxP (l : List (List UInt8)) (x : List UInt8) : Int := idxS x l 0
theorem idxS_mem (x : List UInt8) : ∀ (l : List (List UInt8)) (k : Nat), decide (0 ≤ idxS x l k) = decide (x ∈ l)
 | [], k => by simp [idxS]
 | y :: l, k => by
   rw [idxS]
   by_cases h : x = y
   ·subst h; simp
   ·rw [if_neg h, idxS_mem x l (k + 1)]; simp [h]
theorem idxS_rng (x : List UInt8) : ∀ (l : List (List UInt8)) (k : Nat), -1 ≤ idxS x l k ∧ idxS x l k ≤ k + l.length
 | [], k => by simp only [idxS]; omega
 | y :: l, k => by
   rw [idxS]
   split
   ·simp only [List.length_cons]; omega
   ·have := idxS_rng x l (k + 1); simp only [List.length_cons]; omega
def sgn (s : PSt) (lvl : Nat) : Bool := decide ((curT T s).kind = 6) && decide ((curT T s).text ∈ levelsL.getD lvl [])
def refT (t : Tok) : Ref := (parseP t.text).1
def areaP (s : PSt) : Nd × PSt :=
 if isOp T s.next [58] = false then (.mk 5 0 [] (refT (curT T s)) .zero [], s.next)
 else if (curT T s.next.next).kind ≠ 4 then (zN, failP T s.next.next 10)
 else (.mk 6 0 [] (refT (curT T s)) (refT (curT T s.next.next)) [], s.next.next.next)
mutual
def betwP : Nat → Nat → PSt → Option (Nd × PSt)
 | 0, _, _ => none
 | f + 1, lvl, s => if lvl = 5 then signedP f s else match betwP f (lvl + 1) s with
   | none => none
   | some r => loopP f lvl r.1 r.2
def loopP : Nat → Nat → Nd → PSt → Option (Nd × PSt)
 | 0, _, _, _ => none
 | f + 1, lvl, n, s => if sgn T s lvl = true then (match betwP f (lvl + 1) s.next with
   | none => none
   | some r => loopP f lvl (.mk (10 + idxP signL (curT T s).text) 0 [] .zero .zero [n, r.1]) r.2) else some (n, s)
def signedP : Nat → PSt → Option (Nd × PSt)
 | 0, _ => none
 | f + 1, s => if isOp T s [45] = true then (match signedP f (stepP1 (enterP T s)) with
   | none => none
   | some r => some (.mk 7 0 [] .zero .zero [r.1], leaveP r.2))
  else if isOp T s [43] = true then (match signedP f (stepP1 (enterP T s)) with
   | none => none
   | some r => some (.mk 8 0 [] .zero .zero [r.1], leaveP r.2))
  else hundredP f s
def hundredP : Nat → PSt → Option (Nd × PSt)
 | 0, _ => none
 | f + 1, s => match primP f s with
   | none => none
   | some r => hloopP f r.1 r.2
def hloopP : Nat → Nd → PSt → Option (Nd × PSt)
 | 0, _, _ => none
 | f + 1, n, s => if isOp T s [37] = true then hloopP f (.mk 9 0 [] .zero .zero [n]) s.next else some (n, s)
def primP : Nat → PSt → Option (Nd × PSt)
 | 0, _ => none
 | f + 1, s =>
   if (curT T s).kind = 1 then (match parseD (curT T s).text with
    | none => some (zN, failP T s 10)
    | some v => some (.mk 1 v [] .zero .zero [], s.next))
   else if (curT T s).kind = 2 then some (.mk 2 0 (curT T s).text .zero .zero [], s.next)
   else if (curT T s).kind = 5 then some (.mk 4 ((idxP errL (curT T s).text + 1) * 10000) [] .zero .zero [], s.next)
   else if (curT T s).kind = 4 then some (areaP T s)
   else if (curT T s).kind = 3 then nameP f s
   else if isOp T s [40] = true then (match betwP f 0 (stepP1 (enterP T s)) with
    | none => none
    | some r => some (r.1, leaveP (mustP T r.2 [41])))
   else some (zN, failP T s 10)
def nameP : Nat → PSt → Option (Nd × PSt)
 | 0, _ => none
 | f + 1, s =>
   if (T.getD (s.i + 1) endT).kind = 6 ∧ (T.getD (s.i + 1) endT).text = [40] then
    (if (enterP T s).err ≠ 0 then some (zN, leaveP (enterP T s))
     else match argsP f (enterP T s).next.next with
      | none => none
      | some r => some (.mk 22 0 (curT T s).text .zero .zero r.1, leaveP r.2))
   else if (curT T s).text = [84, 82, 85, 69] then some (.mk 3 1 [] .zero .zero [], s.next)
   else if (curT T s).text = [70, 65, 76, 83, 69] then some (.mk 3 0 [] .zero .zero [], s.next)
   else some (zN, failP T s 10)
def argsP : Nat → PSt → Option (List Nd × PSt)
 | 0, _ => none
 | f + 1, s => if isOp T s [41] = true then some ([], s.next) else aloopP f [] s
def aloopP : Nat → List Nd → PSt → Option (List Nd × PSt)
 | 0, _, _ => none
 | f + 1, l, s => if s.err ≠ 0 then some (l, s) else
   match (if isOp T s [44] = true ∨ isOp T s [41] = true then some (missN, s) else betwP f 0 s) with
   | none => none
   | some r => if isOp T r.2 [44] = true then aloopP f (l ++ [r.1]) r.2.next else some (l ++ [r.1], mustP T r.2 [41])
end
def parseT (f : Nat) (s : List UInt8) : Option (Nd × Int × Int) :=
 if (lexP s).2.2 ≠ 0 then some (zN, (lexP s).2.1, (lexP s).2.2) else
 match betwP (lexP s).1 f 0 ⟨0, 0, 0, 0⟩ with
 | none => none
 | some r =>
   if (if (curT (lexP s).1 r.2).kind ≠ 0 then failP (lexP s).1 r.2 10 else r.2).err ≠ 0 then some (zN, (if (curT (lexP s).1 r.2).kind ≠ 0 then failP (lexP s).1 r.2 10 else r.2).bad, (if (curT (lexP s).1 r.2).kind ≠ 0 then failP (lexP s).1 r.2 10 else r.2).err)
   else some (r.1, 0, 0)
end
structure Ends (T : List Tok) : Prop where
 pos : 0 < T.length
 last : ∀ i, i + 1 = T.length → (T.getD i endT).kind = 0
 more : ∀ i, i < T.length → (T.getD i endT).kind ≠ 0 → i + 1 < T.length
structure Fit (T : List Tok) (s : PSt) : Prop where
 i : s.i < T.length
 d0 : 0 ≤ s.deep
 d1 : s.deep ≤ 41
 d2 : s.err = 0 → s.deep ≤ 40
structure Went (T : List Tok) (s s' : PSt) : Prop where
 fit : Fit T s'
 le : s.i ≤ s'.i
 deep : s'.deep = s.deep
 err : s.err ≠ 0 → s'.err = s.err ∧ s'.i = s.i
section
variable {T : List Tok}
theorem Went.refl {s : PSt} (h : Fit T s) : Went T s s := ⟨h, Nat.le_refl _, rfl, fun _ => ⟨rfl, rfl⟩⟩
theorem Went.trans {s s' s'' : PSt} (h : Went T s s') (k : Went T s' s'') : Went T s s'' :=
 ⟨k.fit, Nat.le_trans h.le k.le, k.deep.trans h.deep, fun he => by
  obtain ⟨h1, h2⟩ := h.err he
  obtain ⟨k1, k2⟩ := k.err (by rw [h1]; exact he)
  exact ⟨k1.trans h1, k2.trans h2⟩⟩
theorem Fit.next {s : PSt} (hT : Ends T) (h : Fit T s) (hk : (curT T s).kind ≠ 0) : Fit T s.next ∧ s.err = 0 := by
 unfold curT at hk
 split at hk
 ·exact absurd rfl hk
 ·rename_i he
  have := hT.more s.i h.i hk
  exact ⟨⟨this, h.d0, h.d1, h.d2⟩, by simpa using he⟩
theorem Went.next {s : PSt} (hT : Ends T) (h : Fit T s) (hk : (curT T s).kind ≠ 0) : Went T s s.next :=
 ⟨(h.next hT hk).1, Nat.le_succ _, rfl, fun he => absurd (h.next hT hk).2 he⟩
theorem Fit.fail {s : PSt} (h : Fit T s) (e : Int) (he : e ≠ 0) : Fit T (failP T s e) := by
 unfold failP
 split
 ·exact ⟨h.i, h.d0, h.d1, fun h0 => absurd h0 he⟩
 ·exact h
theorem Went.fail {s : PSt} (h : Fit T s) (e : Int) (he : e ≠ 0) : Went T s (failP T s e) := by
 refine ⟨h.fail e he, ?_, ?_, fun h0 => ?_⟩
 ·unfold failP; split <;> exact Nat.le_refl _
 ·unfold failP; split <;> rfl
 ·unfold failP; rw [if_neg h0]; exact ⟨rfl, rfl⟩
theorem isOp_kind {s : PSt} {x : List UInt8} (h : isOp T s x = true) : (curT T s).kind ≠ 0 := by
 unfold isOp at h
 simp only [Bool.and_eq_true, decide_eq_true_eq] at h
 omega
theorem sgn_kind {s : PSt} {l : Nat} (h : sgn T s l = true) : (curT T s).kind ≠ 0 := by
 unfold sgn at h
 simp only [Bool.and_eq_true, decide_eq_true_eq] at h
 omega
theorem Went.must {s : PSt} (hT : Ends T) (h : Fit T s) (x : List UInt8) : Went T s (mustP T s x) := by
 unfold mustP
 split
 ·rename_i hx; exact Went.next hT h (isOp_kind hx)
 ·exact Went.fail h 10 (by decide)
theorem enter_fit {s : PSt} (hT : Ends T) (h : Fit T s) (hk : (curT T s).kind ≠ 0) : Fit T (stepP1 (enterP T s)) ∧ (stepP1 (enterP T s)).deep = s.deep + 1 ∧ s.i ≤ (stepP1 (enterP T s)).i := by
 obtain ⟨h1, h2⟩ := h.next hT hk
 have hd := h.d2 h2
 unfold enterP
 split
 ·unfold failP
  dsimp only
  rw [if_pos h2]
  unfold stepP1
  dsimp only
  rw [if_neg (by decide)]
  exact ⟨⟨h.i, by have := h.d0; dsimp only; omega, by dsimp only; omega, fun h0 => absurd h0 (by dsimp only; decide)⟩, rfl, Nat.le_refl _⟩
 ·unfold stepP1
  dsimp only
  rw [if_pos h2]
  exact ⟨⟨h1.i, by have := h.d0; dsimp only [PSt.next]; omega, by dsimp only [PSt.next]; omega, fun _ => by dsimp only [PSt.next]; omega⟩, rfl, Nat.le_succ _⟩
theorem Went.leave {s s1 s2 : PSt} (h1 : s1.deep = s.deep + 1) (hle : s.i ≤ s1.i) (h0 : s.err = 0) (hs : Fit T s) (h : Went T s1 s2) : Went T s (leaveP s2) := by
 have hd := h.deep
 have e : (leaveP s2).deep = s2.deep - 1 := rfl
 have := hs.d0
 have := hs.d2 h0
 exact ⟨⟨h.fit.i, by omega, by omega, fun _ => by omega⟩, Nat.le_trans hle h.le, by omega, fun he => absurd h0 he⟩
theorem cur_err {s : PSt} (h : (curT T s).kind ≠ 0) : s.err = 0 := by
 unfold curT at h
 split at h
 ·exact absurd rfl h
 ·rename_i he; simpa using he
theorem cur_at {s : PSt} (h : s.err = 0) : curT T s = T.getD s.i endT := by unfold curT; rw [if_neg (by simp [h])]
theorem Went.area {s : PSt} (hT : Ends T) (h : Fit T s) (hk : (curT T s).kind = 4) : Went T s (areaP T s).2 := by
 have h1 := Went.next hT h (by omega)
 unfold areaP
 split
 ·exact h1
 ·rename_i ho
  have ho' : isOp T s.next [58] = true := by simpa using ho
  have h2 := h1.trans (Went.next hT h1.fit (isOp_kind ho'))
  split
  ·exact h2.trans (Went.fail h2.fit 10 (by decide))
  ·rename_i hk2
   exact h2.trans (Went.next hT h2.fit (by omega))
structure WentF (T : List Tok) (f : Nat) : Prop where
 betw : ∀ lvl s r, betwP T f lvl s = some r → Fit T s → Went T s r.2
 loop : ∀ lvl n s r, loopP T f lvl n s = some r → Fit T s → Went T s r.2
 signed : ∀ s r, signedP T f s = some r → Fit T s → Went T s r.2
 hundred : ∀ s r, hundredP T f s = some r → Fit T s → Went T s r.2
 hloop : ∀ n s r, hloopP T f n s = some r → Fit T s → Went T s r.2
 prim : ∀ s r, primP T f s = some r → Fit T s → Went T s r.2
 name : ∀ s r, nameP T f s = some r → Fit T s → (curT T s).kind = 3 → Went T s r.2
 args : ∀ s r, argsP T f s = some r → Fit T s → Went T s r.2
 aloop : ∀ l s r, aloopP T f l s = some r → Fit T s → Went T s r.2
theorem enter2 {s : PSt} (hT : Ends T) (h : Fit T s) (hk : (curT T s).kind ≠ 0) (he : (enterP T s).err = 0) : Fit T (enterP T s).next ∧ (enterP T s).deep = s.deep + 1 ∧ (enterP T s).i = s.i ∧ (enterP T s).next = stepP1 (enterP T s) := by
 have h1 := enter_fit hT h hk
 have e : stepP1 (enterP T s) = (enterP T s).next := if_pos he
 rw [e] at h1
 refine ⟨h1.1, h1.2.1, ?_, e.symm⟩
 unfold enterP failP
 split
 ·split <;> rfl
 ·rfl
theorem enter_err {s : PSt} (hT : Ends T) (h : Fit T s) (h0 : s.err = 0) : Fit T (enterP T s) ∧ (enterP T s).deep = s.deep + 1 ∧ (enterP T s).i = s.i := by
 have hd := h.d2 h0
 have := h.d0
 unfold enterP
 split
 ·unfold failP
  dsimp only
  rw [if_pos h0]
  exact ⟨⟨h.i, by dsimp only; omega, by dsimp only; omega, fun h => absurd h (by dsimp only; decide)⟩, rfl, rfl⟩
 ·exact ⟨⟨h.i, by dsimp only; omega, by dsimp only; omega, fun _ => by dsimp only; omega⟩, rfl, rfl⟩
theorem wentF (hT : Ends T) : ∀ f, WentF T f
 | 0 => by
   constructor
   all_goals intros
   all_goals first
    | (rename_i h _; simp only [betwP, loopP, signedP, hundredP, hloopP, primP, argsP, aloopP, reduceCtorEq] at h)
    | (rename_i h _ _; simp only [nameP, reduceCtorEq] at h)
 | f + 1 => by
   have ih := wentF hT f
   constructor
   ·intro lvl s r h hf
    rw [betwP] at h
    split at h
    ·exact ih.signed s r h hf
    ·split at h
     ·cases h
     ·rename_i r1 h1
      have w1 := ih.betw _ _ _ h1 hf
      exact w1.trans (ih.loop _ _ _ _ h w1.fit)
   ·intro lvl n s r h hf
    rw [loopP] at h
    split at h
    ·rename_i hk
     split at h
     ·cases h
     ·rename_i r1 h1
      have w0 := Went.next hT hf (sgn_kind hk)
      have w1 := w0.trans (ih.betw _ _ _ h1 w0.fit)
      exact w1.trans (ih.loop _ _ _ _ h w1.fit)
    ·injection h with h; subst h; exact Went.refl hf
   ·intro s r h hf
    rw [signedP] at h
    split at h
    ·rename_i hk
     split at h
     ·cases h
     ·rename_i r1 h1
      injection h with h; subst h
      obtain ⟨g1, g2, g3⟩ := enter_fit hT hf (isOp_kind hk)
      exact Went.leave g2 g3 (cur_err (isOp_kind hk)) hf (ih.signed _ _ h1 g1)
    split at h
    ·rename_i hk
     split at h
     ·cases h
     ·rename_i r1 h1
      injection h with h; subst h
      obtain ⟨g1, g2, g3⟩ := enter_fit hT hf (isOp_kind hk)
      exact Went.leave g2 g3 (cur_err (isOp_kind hk)) hf (ih.signed _ _ h1 g1)
    ·exact ih.hundred _ _ h hf
   ·intro s r h hf
    rw [hundredP] at h
    split at h
    ·cases h
    ·rename_i r1 h1
     have w1 := ih.prim _ _ h1 hf
     exact w1.trans (ih.hloop _ _ _ h w1.fit)
   ·intro n s r h hf
    rw [hloopP] at h
    split at h
    ·rename_i hk
     have w0 := Went.next hT hf (isOp_kind hk)
     exact w0.trans (ih.hloop _ _ _ h w0.fit)
    ·injection h with h; subst h; exact Went.refl hf
   ·intro s r h hf
    rw [primP] at h
    split at h
    ·rename_i hk
     split at h
     ·injection h with h; subst h; exact Went.fail hf 10 (by decide)
     ·injection h with h; subst h; exact Went.next hT hf (by rw [hk]; decide)
    split at h
    ·rename_i hk
     injection h with h; subst h; exact Went.next hT hf (by omega)
    split at h
    ·rename_i hk
     injection h with h; subst h; exact Went.next hT hf (by omega)
    split at h
    ·rename_i hk
     injection h with h; subst h; exact Went.area hT hf hk
    split at h
    ·rename_i hk
     exact ih.name _ _ h hf hk
    split at h
    ·rename_i hk
     split at h
     ·cases h
     ·rename_i r1 h1
      injection h with h; subst h
      obtain ⟨g1, g2, g3⟩ := enter_fit hT hf (isOp_kind hk)
      have w1 := ih.betw _ _ _ h1 g1
      exact Went.leave g2 g3 (cur_err (isOp_kind hk)) hf (w1.trans (Went.must hT w1.fit _))
    ·injection h with h; subst h; exact Went.fail hf 10 (by decide)
   ·intro s r h hf hk3
    have h0 : s.err = 0 := cur_err (T := T) (by omega)
    have hn := hf.next hT (by omega)
    rw [nameP] at h
    split at h
    ·rename_i hk
     obtain ⟨e1, e2, e3⟩ := enter_err hT hf h0
     split at h
     ·injection h with h; subst h
      exact Went.leave e2 (by omega) h0 hf (Went.refl e1)
     ·rename_i he
      split at h
      ·cases h
      ·rename_i r1 h1
       injection h with h; subst h
       obtain ⟨g1, g2, g3, _⟩ := enter2 hT hf (by omega) (by simpa using he)
       have hl := hT.more (s.i + 1) hn.1.i (by omega)
       have g4 : Fit T (enterP T s).next.next := ⟨by show (enterP T s).i + 1 + 1 < _; omega, g1.d0, g1.d1, g1.d2⟩
       exact Went.leave (s1 := (enterP T s).next.next) g2 (by show s.i ≤ (enterP T s).i + 1 + 1; omega) h0 hf (ih.args _ _ h1 g4)
    split at h
    ·injection h with h; subst h; exact Went.next hT hf (by omega)
    split at h
    ·injection h with h; subst h; exact Went.next hT hf (by omega)
    ·injection h with h; subst h; exact Went.fail hf 10 (by decide)
   ·intro s r h hf
    rw [argsP] at h
    split at h
    ·rename_i hk
     injection h with h; subst h; exact Went.next hT hf (isOp_kind hk)
    ·exact ih.aloop _ _ _ h hf
   ·intro l s r h hf
    rw [aloopP] at h
    split at h
    ·injection h with h; subst h; exact Went.refl hf
    ·rename_i he
     split at h
     ·cases h
     ·rename_i r1 h1
      have w1 : Went T s r1.2 := by
       split at h1
       ·injection h1 with h1; subst h1; exact Went.refl hf
       ·exact ih.betw _ _ _ h1 hf
      split at h
      ·rename_i hk
       have w2 := w1.trans (Went.next hT w1.fit (isOp_kind hk))
       exact w2.trans (ih.aloop _ _ _ h w2.fit)
      ·injection h with h; subst h; exact w1.trans (Went.must hT w1.fit _)
end
end Go.A
namespace Go.A
open Go.Proofs
/-! 11: tabular/token.Lex -/
def c11_0 : ACode := .ops [
 ⟨some 2, none, .q (.mv (.v (.sl .full []))), []⟩,
 ⟨some 3, none, .q (.mv (.v (.int .i64 0))), []⟩,
 ⟨some 4, none, .q (.mv (.v (.int .i64 0))), []⟩]
def c11_1 : ACode := .ops [
 ⟨some 7, none, .q (.mv (.t 0)), []⟩,
 ⟨some 8, none, .q (.lenS (.t 7)), []⟩,
 ⟨some 9, none, .q (.bin .gtr (.t 8) (.v (.int .i64 2000))), []⟩]
def c11_2 : ACode := .ops [
 ⟨some 2, none, .q (.mv (.v (.sl .full []))), []⟩,
 ⟨some 3, none, .q (.mv (.v (.int .i64 0))), []⟩,
 ⟨some 4, none, .q (.mv (.v (.int .i64 11))), []⟩]
def c11_3 : ACode := .seq c11_2 .ret
def c11_4 : ACode := .cond (.t 9) c11_3 .skip
def c11_5 : ACode := .seq c11_1 c11_4
def c11_6 : ACode := .ops [
 ⟨some 10, none, .q (.mv (.t 0)), []⟩,
 ⟨some 11, none, .q (.build [(.str []), (.int .i64 0), (.int .i64 0), (.sl .full [])] [(0, 1, (.t 10))]), []⟩,
 ⟨some 12, none, .e (.box (.t 11)), []⟩,
 ⟨some 5, none, .q (.mv (.t 12)), []⟩]
def c11_7 : ACode := .ops [
 ⟨some 13, none, .q (.mv (.t 5)), []⟩,
 ⟨some 14, none, .q (.nc (.t 13)), []⟩,
 ⟨some 15, none, .q (.fa 1 (.t 14)), []⟩,
 ⟨some 16, none, .q (.ld none (.t 15)), []⟩,
 ⟨some 17, none, .q (.mv (.t 0)), []⟩,
 ⟨some 18, none, .q (.lenS (.t 17)), []⟩,
 ⟨some 19, none, .q (.bin .lss (.t 16) (.t 18)), []⟩]
def c11_8 : ACode := .cond (.t 19) .skip (.exit 0)
def c11_9 : ACode := .seq c11_7 c11_8
def c11_10 : ACode := .ops [
 ⟨some 20, none, .q (.mv (.t 5)), []⟩,
 ⟨some 21, none, .e (.call 20 [(.t 20)]), []⟩,
 ⟨some 6, none, .q (.mv (.t 21)), []⟩]
def c11_11 : ACode := .ops [
 ⟨some 22, none, .q (.mv (.t 6)), []⟩,
 ⟨some 23, none, .q (.bin .neq (.t 22) (.v (.int .i64 0))), []⟩]
def c11_12 : ACode := .ops [
 ⟨some 24, none, .q (.mv (.t 5)), []⟩,
 ⟨some 25, none, .q (.nc (.t 24)), []⟩,
 ⟨some 26, none, .q (.fa 1 (.t 25)), []⟩,
 ⟨some 27, none, .q (.ld none (.t 26)), []⟩,
 ⟨some 28, none, .q (.mv (.t 6)), []⟩,
 ⟨some 2, none, .q (.mv (.v (.sl .full []))), []⟩,
 ⟨some 3, none, .q (.mv (.t 27)), []⟩,
 ⟨some 4, none, .q (.mv (.t 28)), []⟩]
def c11_13 : ACode := .seq c11_12 .ret
def c11_14 : ACode := .cond (.t 23) c11_13 .skip
def c11_15 : ACode := .seq c11_11 c11_14
def c11_16 : ACode := .seq c11_10 c11_15
def c11_17 : ACode := .block 1 c11_16
def c11_18 : ACode := .seq c11_9 c11_17
def c11_19 : ACode := .loop c11_18
def c11_20 : ACode := .block 0 c11_19
def c11_21 : ACode := .ops [
 ⟨some 29, none, .q (.mv (.t 5)), []⟩,
 ⟨some 30, none, .e (.call 21 [(.t 29), (.v (.int .i64 0)), (.v (.str [])), (.v (.int .i64 0))]), []⟩]
def c11_22 : ACode := .ops [
 ⟨some 31, none, .q (.mv (.t 5)), []⟩,
 ⟨some 32, none, .q (.nc (.t 31)), []⟩,
 ⟨some 33, none, .q (.fa 3 (.t 32)), []⟩,
 ⟨some 34, none, .q (.ld none (.t 33)), []⟩,
 ⟨some 2, none, .q (.mv (.t 34)), []⟩,
 ⟨some 3, none, .q (.mv (.v (.int .i64 0))), []⟩,
 ⟨some 4, none, .q (.mv (.v (.int .i64 0))), []⟩]
def c11_23 : ACode := .seq c11_22 .ret
def c11_24 : ACode := .seq c11_21 c11_23
def c11_25 : ACode := .seq c11_20 c11_24
def c11_26 : ACode := .seq c11_6 c11_25
def c11_27 : ACode := .seq c11_5 c11_26
def c11_28 : ACode := .seq c11_0 c11_27
@[go_sem] def c11_0_wp := wp_of c11_0.eq_1
@[go_sem] def c11_1_wp := wp_of c11_1.eq_1
@[go_sem] def c11_2_wp := wp_of c11_2.eq_1
@[go_sem] def c11_3_wp := wp_of c11_3.eq_1
@[go_sem] def c11_4_wp := wp_of c11_4.eq_1
@[go_sem] def c11_5_wp := wp_of c11_5.eq_1
@[go_sem] def c11_6_wp := wp_of c11_6.eq_1
@[go_sem] def c11_7_wp := wp_of c11_7.eq_1
@[go_sem] def c11_8_wp := wp_of c11_8.eq_1
@[go_sem] def c11_9_wp := wp_of c11_9.eq_1
@[go_sem] def c11_10_wp := wp_of c11_10.eq_1
@[go_sem] def c11_11_wp := wp_of c11_11.eq_1
@[go_sem] def c11_12_wp := wp_of c11_12.eq_1
@[go_sem] def c11_13_wp := wp_of c11_13.eq_1
@[go_sem] def c11_14_wp := wp_of c11_14.eq_1
@[go_sem] def c11_15_wp := wp_of c11_15.eq_1
@[go_sem] def c11_16_wp := wp_of c11_16.eq_1
@[go_sem] def c11_17_wp := wp_of c11_17.eq_1
@[go_sem] def c11_18_wp := wp_of c11_18.eq_1
@[go_sem] def c11_19_wp := wp_of c11_19.eq_1
@[go_sem] def c11_20_wp := wp_of c11_20.eq_1
@[go_sem] def c11_21_wp := wp_of c11_21.eq_1
@[go_sem] def c11_22_wp := wp_of c11_22.eq_1
@[go_sem] def c11_23_wp := wp_of c11_23.eq_1
@[go_sem] def c11_24_wp := wp_of c11_24.eq_1
@[go_sem] def c11_25_wp := wp_of c11_25.eq_1
@[go_sem] def c11_26_wp := wp_of c11_26.eq_1
@[go_sem] def c11_27_wp := wp_of c11_27.eq_1
@[go_sem] def c11_28_wp := wp_of c11_28.eq_1
def c11 : AFn := ⟨35, [.t 2, .t 3, .t 4], c11_28⟩
theorem c11_ok : compF Tryz.prog Tryz.f11 = some c11 := by kernel_rfl
theorem a11 {args : List AV} {σ : ASt} {R : AV → ASt → Prop} (hl : args.length ≤ 35) (h : c11_28.wp Tryz.prog (RetQ [.t 2, .t 3, .t 4] R) (init args) σ) : ACalls Tryz.prog 11 args σ R := acalls_of Tryz.func11 c11_ok hl h
/-! 20: (*tabular/token.lexer).next -/
def c20_0 : ACode := .ops [
 ⟨some 2, none, .q (.mv (.v (.int .i64 0))), []⟩]
def c20_1 : ACode := .ops [
 ⟨some 6, none, .q (.mv (.t 0)), []⟩,
 ⟨some 7, none, .e (.call 38 [(.t 6)]), []⟩,
 ⟨some 5, none, .q (.mv (.t 7)), []⟩,
 ⟨some 8, none, .q (.ext 0 (.t 5)), []⟩,
 ⟨some 9, none, .q (.ext 1 (.t 5)), []⟩,
 ⟨some 3, none, .q (.mv (.t 8)), []⟩,
 ⟨some 4, none, .q (.mv (.t 9)), []⟩]
def c20_2 : ACode := .ops [
 ⟨some 15, none, .q (.mv (.t 4)), []⟩,
 ⟨some 16, none, .q (.bin .lss (.t 15) (.v (.int .i64 0))), []⟩,
 ⟨some 14, none, .q (.mv (.t 16)), []⟩]
def c20_3 : ACode := .ops [
 ⟨some 2, none, .q (.mv (.v (.int .i64 10))), []⟩]
def c20_4 : ACode := .seq c20_3 .ret
def c20_5 : ACode := .ops [
 ⟨some 18, none, .q (.mv (.t 3)), []⟩,
 ⟨some 19, none, .q (.bin .eql (.t 18) (.v (.int .i32 32))), []⟩,
 ⟨some 17, none, .q (.mv (.t 19)), []⟩]
def c20_6 : ACode := .ops [
 ⟨some 20, none, .q (.mv (.t 3)), []⟩,
 ⟨some 21, none, .q (.bin .eql (.t 20) (.v (.int .i32 9))), []⟩,
 ⟨some 17, none, .q (.mv (.t 21)), []⟩]
def c20_7 : ACode := .ops [
 ⟨some 22, none, .q (.mv (.t 3)), []⟩,
 ⟨some 23, none, .q (.bin .eql (.t 22) (.v (.int .i32 10))), []⟩,
 ⟨some 17, none, .q (.mv (.t 23)), []⟩]
def c20_8 : ACode := .cond (.t 17) .skip c20_7
def c20_9 : ACode := .seq c20_6 c20_8
def c20_10 : ACode := .cond (.t 17) .skip c20_9
def c20_11 : ACode := .seq c20_5 c20_10
def c20_12 : ACode := .ops [
 ⟨some 24, none, .q (.mv (.t 0)), []⟩,
 ⟨some 25, none, .q (.mv (.t 0)), []⟩,
 ⟨some 26, none, .q (.nc (.t 25)), []⟩,
 ⟨some 27, none, .q (.fa 1 (.t 26)), []⟩,
 ⟨some 28, none, .q (.ld none (.t 27)), []⟩,
 ⟨some 29, none, .q (.mv (.t 4)), []⟩,
 ⟨some 30, none, .q (.bin .add (.t 28) (.t 29)), []⟩,
 ⟨some 31, none, .e (.call 39 [(.t 24), (.t 30)]), []⟩]
def c20_13 : ACode := .ops [
 ⟨some 33, none, .q (.mv (.t 3)), []⟩,
 ⟨some 34, none, .q (.bin .lss (.t 33) (.v (.int .i32 128))), []⟩,
 ⟨some 35, none, .q (.mv (.t 34)), []⟩,
 ⟨some 36, some (35, true), .q (.mv (.t 3)), []⟩,
 ⟨some 37, some (35, true), .q (.conv .u8 (.t 36)), []⟩,
 ⟨some 38, some (35, true), .e (.call 40 [(.t 37)]), []⟩,
 ⟨some 39, none, .q (.pick (.t 35) (.t 38) (.v (.bool false))), []⟩,
 ⟨some 32, none, .q (.mv (.t 39)), []⟩]
def c20_14 : ACode := .ops [
 ⟨some 40, none, .q (.mv (.t 0)), []⟩,
 ⟨some 41, none, .e (.call 41 [(.t 40)]), []⟩,
 ⟨some 2, none, .q (.mv (.t 41)), []⟩]
def c20_15 : ACode := .seq c20_14 .ret
def c20_16 : ACode := .ops [
 ⟨some 43, none, .q (.mv (.t 3)), []⟩,
 ⟨some 44, none, .q (.bin .eql (.t 43) (.v (.int .i32 34))), []⟩,
 ⟨some 42, none, .q (.mv (.t 44)), []⟩]
def c20_17 : ACode := .ops [
 ⟨some 45, none, .q (.mv (.t 0)), []⟩,
 ⟨some 46, none, .e (.call 42 [(.t 45)]), []⟩,
 ⟨some 2, none, .q (.mv (.t 46)), []⟩]
def c20_18 : ACode := .seq c20_17 .ret
def c20_19 : ACode := .ops [
 ⟨some 48, none, .q (.mv (.t 3)), []⟩,
 ⟨some 49, none, .q (.bin .eql (.t 48) (.v (.int .i32 35))), []⟩,
 ⟨some 47, none, .q (.mv (.t 49)), []⟩]
def c20_20 : ACode := .ops [
 ⟨some 50, none, .q (.mv (.t 0)), []⟩,
 ⟨some 51, none, .e (.call 43 [(.t 50)]), []⟩,
 ⟨some 2, none, .q (.mv (.t 51)), []⟩]
def c20_21 : ACode := .seq c20_20 .ret
def c20_22 : ACode := .ops [
 ⟨some 10, none, .q (.mv (.t 0)), []⟩,
 ⟨some 11, none, .q (.mv (.t 3)), []⟩,
 ⟨some 12, none, .q (.mv (.t 4)), []⟩,
 ⟨some 13, none, .e (.call 44 [(.t 10), (.t 11), (.t 12)]), []⟩,
 ⟨some 2, none, .q (.mv (.t 13)), []⟩]
def c20_23 : ACode := .seq c20_22 .ret
def c20_24 : ACode := .cond (.t 47) c20_21 c20_23
def c20_25 : ACode := .seq c20_19 c20_24
def c20_26 : ACode := .cond (.t 42) c20_18 c20_25
def c20_27 : ACode := .seq c20_16 c20_26
def c20_28 : ACode := .cond (.t 32) c20_15 c20_27
def c20_29 : ACode := .seq c20_13 c20_28
def c20_30 : ACode := .cond (.t 17) c20_12 c20_29
def c20_31 : ACode := .seq c20_11 c20_30
def c20_32 : ACode := .cond (.t 14) c20_4 c20_31
def c20_33 : ACode := .seq c20_2 c20_32
def c20_34 : ACode := .block 0 c20_33
def c20_35 : ACode := .ops [
 ⟨some 2, none, .q (.mv (.v (.int .i64 0))), []⟩]
def c20_36 : ACode := .seq c20_35 .ret
def c20_37 : ACode := .seq c20_34 c20_36
def c20_38 : ACode := .seq c20_1 c20_37
def c20_39 : ACode := .seq c20_0 c20_38
@[go_sem] def c20_0_wp := wp_of c20_0.eq_1
@[go_sem] def c20_1_wp := wp_of c20_1.eq_1
@[go_sem] def c20_2_wp := wp_of c20_2.eq_1
@[go_sem] def c20_3_wp := wp_of c20_3.eq_1
@[go_sem] def c20_4_wp := wp_of c20_4.eq_1
@[go_sem] def c20_5_wp := wp_of c20_5.eq_1
@[go_sem] def c20_6_wp := wp_of c20_6.eq_1
@[go_sem] def c20_7_wp := wp_of c20_7.eq_1
@[go_sem] def c20_8_wp := wp_of c20_8.eq_1
@[go_sem] def c20_9_wp := wp_of c20_9.eq_1
@[go_sem] def c20_10_wp := wp_of c20_10.eq_1
@[go_sem] def c20_11_wp := wp_of c20_11.eq_1
@[go_sem] def c20_12_wp := wp_of c20_12.eq_1
@[go_sem] def c20_13_wp := wp_of c20_13.eq_1
@[go_sem] def c20_14_wp := wp_of c20_14.eq_1
@[go_sem] def c20_15_wp := wp_of c20_15.eq_1
@[go_sem] def c20_16_wp := wp_of c20_16.eq_1
@[go_sem] def c20_17_wp := wp_of c20_17.eq_1
@[go_sem] def c20_18_wp := wp_of c20_18.eq_1
@[go_sem] def c20_19_wp := wp_of c20_19.eq_1
@[go_sem] def c20_20_wp := wp_of c20_20.eq_1
@[go_sem] def c20_21_wp := wp_of c20_21.eq_1
@[go_sem] def c20_22_wp := wp_of c20_22.eq_1
@[go_sem] def c20_23_wp := wp_of c20_23.eq_1
@[go_sem] def c20_24_wp := wp_of c20_24.eq_1
@[go_sem] def c20_25_wp := wp_of c20_25.eq_1
@[go_sem] def c20_26_wp := wp_of c20_26.eq_1
@[go_sem] def c20_27_wp := wp_of c20_27.eq_1
@[go_sem] def c20_28_wp := wp_of c20_28.eq_1
@[go_sem] def c20_29_wp := wp_of c20_29.eq_1
@[go_sem] def c20_30_wp := wp_of c20_30.eq_1
@[go_sem] def c20_31_wp := wp_of c20_31.eq_1
@[go_sem] def c20_32_wp := wp_of c20_32.eq_1
@[go_sem] def c20_33_wp := wp_of c20_33.eq_1
@[go_sem] def c20_34_wp := wp_of c20_34.eq_1
@[go_sem] def c20_35_wp := wp_of c20_35.eq_1
@[go_sem] def c20_36_wp := wp_of c20_36.eq_1
@[go_sem] def c20_37_wp := wp_of c20_37.eq_1
@[go_sem] def c20_38_wp := wp_of c20_38.eq_1
@[go_sem] def c20_39_wp := wp_of c20_39.eq_1
def c20 : AFn := ⟨52, [.t 2], c20_39⟩
theorem c20_ok : compF Tryz.prog Tryz.f20 = some c20 := by kernel_rfl
theorem a20 {args : List AV} {σ : ASt} {R : AV → ASt → Prop} (hl : args.length ≤ 52) (h : c20_39.wp Tryz.prog (RetQ [.t 2] R) (init args) σ) : ACalls Tryz.prog 20 args σ R := acalls_of Tryz.func20 c20_ok hl h
/-! 21: (*tabular/token.lexer).put -/
def c21_0 : ACode := .ops [
 ⟨some 8, none, .q (.mv (.t 0)), []⟩,
 ⟨some 9, none, .q (.mv (.t 0)), []⟩,
 ⟨some 10, none, .q (.nc (.t 9)), []⟩,
 ⟨some 11, none, .q (.fa 3 (.t 10)), []⟩,
 ⟨some 12, none, .q (.ld none (.t 11)), []⟩,
 ⟨some 13, none, .q (.mv (.t 1)), []⟩,
 ⟨some 14, none, .q (.mv (.t 2)), []⟩,
 ⟨some 15, none, .q (.mv (.t 0)), []⟩,
 ⟨some 16, none, .q (.nc (.t 15)), []⟩,
 ⟨some 17, none, .q (.fa 1 (.t 16)), []⟩,
 ⟨some 18, none, .q (.ld none (.t 17)), []⟩,
 ⟨some 19, none, .q (.mv (.t 0)), []⟩,
 ⟨some 20, none, .q (.nc (.t 19)), []⟩,
 ⟨some 21, none, .q (.fa 2 (.t 20)), []⟩,
 ⟨some 22, none, .q (.ld none (.t 21)), []⟩,
 ⟨some 23, none, .q (.build [(.int .i64 0), (.str []), (.int .i64 0), (.int .i64 0)] [(0, 1, (.t 13)), (1, 1, (.t 14)), (2, 1, (.t 18)), (3, 1, (.t 22))]), []⟩,
 ⟨some 24, none, .q (.bsl 4 [(.t 23)]), []⟩,
 ⟨some 25, none, .e (.app 47 4 40 [(.int .i64 0), (.str []), (.int .i64 0), (.int .i64 0)] (.t 12) (.t 24)), []⟩,
 ⟨some 26, none, .q (.nc (.t 8)), []⟩,
 ⟨some 27, none, .q (.fa 3 (.t 26)), []⟩,
 ⟨none, none, .e (.store 1 (.t 27) (.t 25)), []⟩]
def c21_1 : ACode := .ops [
 ⟨some 28, none, .q (.mv (.t 0)), []⟩,
 ⟨some 29, none, .q (.nc (.t 28)), []⟩,
 ⟨some 30, none, .q (.fa 2 (.t 29)), []⟩,
 ⟨some 31, none, .q (.ld none (.t 30)), []⟩,
 ⟨some 32, none, .q (.mv (.t 0)), []⟩,
 ⟨some 33, none, .q (.nc (.t 32)), []⟩,
 ⟨some 34, none, .q (.fa 0 (.t 33)), []⟩,
 ⟨some 35, none, .q (.ld none (.t 34)), []⟩,
 ⟨some 36, none, .q (.mv (.t 0)), []⟩,
 ⟨some 37, none, .q (.nc (.t 36)), []⟩,
 ⟨some 38, none, .q (.fa 1 (.t 37)), []⟩,
 ⟨some 39, none, .q (.ld none (.t 38)), []⟩,
 ⟨some 40, none, .q (.mv (.t 0)), []⟩,
 ⟨some 41, none, .q (.nc (.t 40)), []⟩,
 ⟨some 42, none, .q (.fa 1 (.t 41)), []⟩,
 ⟨some 43, none, .q (.ld none (.t 42)), []⟩,
 ⟨some 44, none, .q (.mv (.t 3)), []⟩,
 ⟨some 45, none, .q (.bin .add (.t 43) (.t 44)), []⟩,
 ⟨some 46, none, .q (.sls (true, 0) (.t 35) (.t 39) (.t 45)), []⟩,
 ⟨some 47, none, .e (.call 45 [(.t 46)]), [⟨none, .ld none (.t 30), 31⟩]⟩,
 ⟨some 48, none, .q (.bin .add (.t 31) (.t 47)), []⟩,
 ⟨some 49, none, .q (.nc (.t 28)), []⟩,
 ⟨some 50, none, .q (.fa 2 (.t 49)), []⟩,
 ⟨none, none, .e (.store 1 (.t 50) (.t 48)), []⟩]
def c21_2 : ACode := .ops [
 ⟨some 51, none, .q (.mv (.t 0)), []⟩,
 ⟨some 52, none, .q (.nc (.t 51)), []⟩,
 ⟨some 53, none, .q (.fa 1 (.t 52)), []⟩,
 ⟨some 54, none, .q (.ld none (.t 53)), []⟩,
 ⟨some 55, none, .q (.mv (.t 3)), []⟩,
 ⟨some 56, none, .q (.bin .add (.t 54) (.t 55)), []⟩,
 ⟨some 57, none, .q (.nc (.t 51)), []⟩,
 ⟨some 58, none, .q (.fa 1 (.t 57)), []⟩,
 ⟨none, none, .e (.store 1 (.t 58) (.t 56)), []⟩]
def c21_3 : ACode := .seq c21_1 c21_2
def c21_4 : ACode := .seq c21_0 c21_3
@[go_sem] def c21_0_wp := wp_of c21_0.eq_1
@[go_sem] def c21_1_wp := wp_of c21_1.eq_1
@[go_sem] def c21_2_wp := wp_of c21_2.eq_1
@[go_sem] def c21_3_wp := wp_of c21_3.eq_1
@[go_sem] def c21_4_wp := wp_of c21_4.eq_1
def c21 : AFn := ⟨59, [], c21_4⟩
theorem c21_ok : compF Tryz.prog Tryz.f21 = some c21 := by kernel_rfl
theorem a21 {args : List AV} {σ : ASt} {R : AV → ASt → Prop} (hl : args.length ≤ 59) (h : c21_4.wp Tryz.prog (RetQ [] R) (init args) σ) : ACalls Tryz.prog 21 args σ R := acalls_of Tryz.func21 c21_ok hl h
/-! 38: (*tabular/token.lexer).sign -/
def c38_0 : ACode := .ops [
 ⟨some 2, none, .q (.mv (.v (.int .i32 0))), []⟩,
 ⟨some 3, none, .q (.mv (.v (.int .i64 0))), []⟩]
def c38_1 : ACode := .ops [
 ⟨some 6, none, .q (.mv (.t 0)), []⟩,
 ⟨some 7, none, .q (.nc (.t 6)), []⟩,
 ⟨some 8, none, .q (.fa 1 (.t 7)), []⟩,
 ⟨some 9, none, .q (.ld none (.t 8)), []⟩,
 ⟨some 10, none, .q (.mv (.t 0)), []⟩,
 ⟨some 11, none, .q (.nc (.t 10)), []⟩,
 ⟨some 12, none, .q (.fa 0 (.t 11)), []⟩,
 ⟨some 13, none, .q (.ld none (.t 12)), []⟩,
 ⟨some 14, none, .q (.lenS (.t 13)), []⟩,
 ⟨some 15, none, .q (.bin .geq (.t 9) (.t 14)), []⟩]
def c38_2 : ACode := .ops [
 ⟨some 2, none, .q (.mv (.v (.int .i32 0))), []⟩,
 ⟨some 3, none, .q (.mv (.v (.int .i64 0))), []⟩]
def c38_3 : ACode := .seq c38_2 .ret
def c38_4 : ACode := .cond (.t 15) c38_3 .skip
def c38_5 : ACode := .seq c38_1 c38_4
def c38_6 : ACode := .ops [
 ⟨some 17, none, .q (.mv (.t 0)), []⟩,
 ⟨some 18, none, .q (.nc (.t 17)), []⟩,
 ⟨some 19, none, .q (.fa 0 (.t 18)), []⟩,
 ⟨some 20, none, .q (.ld none (.t 19)), []⟩,
 ⟨some 21, none, .q (.mv (.t 0)), []⟩,
 ⟨some 22, none, .q (.nc (.t 21)), []⟩,
 ⟨some 23, none, .q (.fa 1 (.t 22)), []⟩,
 ⟨some 24, none, .q (.ld none (.t 23)), []⟩,
 ⟨some 25, none, .q (.slfrom (true, 0) (.t 20) (.t 24)), []⟩,
 ⟨some 26, none, .e (.call 61 [(.t 25)]), []⟩,
 ⟨some 16, none, .q (.mv (.t 26)), []⟩,
 ⟨some 27, none, .q (.ext 0 (.t 16)), []⟩,
 ⟨some 28, none, .q (.ext 1 (.t 16)), []⟩,
 ⟨some 4, none, .q (.mv (.t 27)), []⟩,
 ⟨some 5, none, .q (.mv (.t 28)), []⟩]
def c38_7 : ACode := .ops [
 ⟨some 29, none, .q (.mv (.t 4)), []⟩,
 ⟨some 30, none, .q (.bin .eql (.t 29) (.v (.int .i32 65533))), []⟩,
 ⟨some 31, none, .q (.mv (.t 30)), []⟩,
 ⟨some 32, some (31, true), .q (.mv (.t 5)), []⟩,
 ⟨some 33, some (31, true), .q (.bin .eql (.t 32) (.v (.int .i64 1))), []⟩,
 ⟨some 34, none, .q (.pick (.t 31) (.t 33) (.v (.bool false))), []⟩]
def c38_8 : ACode := .ops [
 ⟨some 2, none, .q (.mv (.v (.int .i32 0))), []⟩,
 ⟨some 3, none, .q (.mv (.v (.int .i64 (-1)))), []⟩]
def c38_9 : ACode := .seq c38_8 .ret
def c38_10 : ACode := .cond (.t 34) c38_9 .skip
def c38_11 : ACode := .seq c38_7 c38_10
def c38_12 : ACode := .ops [
 ⟨some 35, none, .q (.mv (.t 4)), []⟩,
 ⟨some 36, none, .q (.mv (.t 5)), []⟩,
 ⟨some 2, none, .q (.mv (.t 35)), []⟩,
 ⟨some 3, none, .q (.mv (.t 36)), []⟩]
def c38_13 : ACode := .seq c38_12 .ret
def c38_14 : ACode := .seq c38_11 c38_13
def c38_15 : ACode := .seq c38_6 c38_14
def c38_16 : ACode := .seq c38_5 c38_15
def c38_17 : ACode := .seq c38_0 c38_16
@[go_sem] def c38_0_wp := wp_of c38_0.eq_1
@[go_sem] def c38_1_wp := wp_of c38_1.eq_1
@[go_sem] def c38_4_wp := wp_of c38_4.eq_1
@[go_sem] def c38_5_wp := wp_of c38_5.eq_1
@[go_sem] def c38_6_wp := wp_of c38_6.eq_1
@[go_sem] def c38_7_wp := wp_of c38_7.eq_1
@[go_sem] def c38_8_wp := wp_of c38_8.eq_1
@[go_sem] def c38_9_wp := wp_of c38_9.eq_1
@[go_sem] def c38_10_wp := wp_of c38_10.eq_1
@[go_sem] def c38_11_wp := wp_of c38_11.eq_1
@[go_sem] def c38_12_wp := wp_of c38_12.eq_1
@[go_sem] def c38_13_wp := wp_of c38_13.eq_1
@[go_sem] def c38_14_wp := wp_of c38_14.eq_1
@[go_sem] def c38_15_wp := wp_of c38_15.eq_1
@[go_sem] def c38_16_wp := wp_of c38_16.eq_1
@[go_sem] def c38_17_wp := wp_of c38_17.eq_1
def c38 : AFn := ⟨37, [.t 2, .t 3], c38_17⟩
theorem c38_ok : compF Tryz.prog Tryz.f38 = some c38 := by kernel_rfl
theorem a38 {args : List AV} {σ : ASt} {R : AV → ASt → Prop} (hl : args.length ≤ 37) (h : c38_17.wp Tryz.prog (RetQ [.t 2, .t 3] R) (init args) σ) : ACalls Tryz.prog 38 args σ R := acalls_of Tryz.func38 c38_ok hl h
/-! 39: (*tabular/token.lexer).pass -/
def c39_0 : ACode := .ops [
 ⟨some 4, none, .q (.mv (.t 0)), []⟩,
 ⟨some 5, none, .q (.nc (.t 4)), []⟩,
 ⟨some 6, none, .q (.fa 2 (.t 5)), []⟩,
 ⟨some 7, none, .q (.ld none (.t 6)), []⟩,
 ⟨some 8, none, .q (.mv (.t 0)), []⟩,
 ⟨some 9, none, .q (.nc (.t 8)), []⟩,
 ⟨some 10, none, .q (.fa 0 (.t 9)), []⟩,
 ⟨some 11, none, .q (.ld none (.t 10)), []⟩,
 ⟨some 12, none, .q (.mv (.t 0)), []⟩,
 ⟨some 13, none, .q (.nc (.t 12)), []⟩,
 ⟨some 14, none, .q (.fa 1 (.t 13)), []⟩,
 ⟨some 15, none, .q (.ld none (.t 14)), []⟩,
 ⟨some 16, none, .q (.mv (.t 1)), []⟩,
 ⟨some 17, none, .q (.sls (true, 0) (.t 11) (.t 15) (.t 16)), []⟩,
 ⟨some 18, none, .e (.call 45 [(.t 17)]), [⟨none, .ld none (.t 6), 7⟩]⟩,
 ⟨some 19, none, .q (.bin .add (.t 7) (.t 18)), []⟩,
 ⟨some 20, none, .q (.nc (.t 4)), []⟩,
 ⟨some 21, none, .q (.fa 2 (.t 20)), []⟩,
 ⟨none, none, .e (.store 1 (.t 21) (.t 19)), []⟩]
def c39_1 : ACode := .ops [
 ⟨some 22, none, .q (.mv (.t 0)), []⟩,
 ⟨some 23, none, .q (.mv (.t 1)), []⟩,
 ⟨some 24, none, .q (.nc (.t 22)), []⟩,
 ⟨some 25, none, .q (.fa 1 (.t 24)), []⟩,
 ⟨none, none, .e (.store 1 (.t 25) (.t 23)), []⟩]
def c39_2 : ACode := .seq c39_0 c39_1
@[go_sem] def c39_0_wp := wp_of c39_0.eq_1
@[go_sem] def c39_1_wp := wp_of c39_1.eq_1
@[go_sem] def c39_2_wp := wp_of c39_2.eq_1
def c39 : AFn := ⟨26, [], c39_2⟩
theorem c39_ok : compF Tryz.prog Tryz.f39 = some c39 := by kernel_rfl
theorem a39 {args : List AV} {σ : ASt} {R : AV → ASt → Prop} (hl : args.length ≤ 26) (h : c39_2.wp Tryz.prog (RetQ [] R) (init args) σ) : ACalls Tryz.prog 39 args σ R := acalls_of Tryz.func39 c39_ok hl h
/-! 41: (*tabular/token.lexer).words -/
def c41_0 : ACode := .ops [
 ⟨some 2, none, .q (.mv (.v (.int .i64 0))), []⟩]
def c41_1 : ACode := .ops [
 ⟨some 3, none, .q (.mv (.v (.int .i64 0))), []⟩]
def c41_2 : ACode := .ops [
 ⟨some 5, none, .q (.mv (.t 0)), []⟩,
 ⟨some 6, none, .q (.nc (.t 5)), []⟩,
 ⟨some 7, none, .q (.fa 1 (.t 6)), []⟩,
 ⟨some 8, none, .q (.ld none (.t 7)), []⟩,
 ⟨some 9, none, .q (.mv (.t 3)), []⟩,
 ⟨some 10, none, .q (.bin .add (.t 8) (.t 9)), []⟩,
 ⟨some 11, none, .q (.mv (.t 0)), []⟩,
 ⟨some 12, none, .q (.nc (.t 11)), []⟩,
 ⟨some 13, none, .q (.fa 0 (.t 12)), []⟩,
 ⟨some 14, none, .q (.ld none (.t 13)), []⟩,
 ⟨some 15, none, .q (.lenS (.t 14)), []⟩,
 ⟨some 16, none, .q (.bin .lss (.t 10) (.t 15)), []⟩,
 ⟨some 17, none, .q (.mv (.t 16)), []⟩,
 ⟨some 18, some (17, true), .q (.mv (.t 0)), []⟩,
 ⟨some 19, some (17, true), .q (.nc (.t 18)), []⟩,
 ⟨some 20, some (17, true), .q (.fa 0 (.t 19)), []⟩,
 ⟨some 21, some (17, true), .q (.ld none (.t 20)), []⟩,
 ⟨some 22, some (17, true), .q (.mv (.t 0)), []⟩,
 ⟨some 23, some (17, true), .q (.nc (.t 22)), []⟩,
 ⟨some 24, some (17, true), .q (.fa 1 (.t 23)), []⟩,
 ⟨some 25, some (17, true), .q (.ld none (.t 24)), []⟩,
 ⟨some 26, some (17, true), .q (.mv (.t 3)), []⟩,
 ⟨some 27, some (17, true), .q (.bin .add (.t 25) (.t 26)), []⟩,
 ⟨some 28, some (17, true), .q (.idx (.t 21) (.t 27)), []⟩,
 ⟨some 29, some (17, true), .e (.call 40 [(.t 28)]), []⟩,
 ⟨some 30, none, .q (.pick (.t 17) (.t 29) (.v (.bool false))), []⟩]
def c41_3 : ACode := .cond (.t 30) .skip (.exit 0)
def c41_4 : ACode := .seq c41_2 c41_3
def c41_5 : ACode := .ops [
 ⟨some 31, none, .q (.mv (.t 3)), []⟩,
 ⟨some 32, none, .q (.bin .add (.t 31) (.v (.int .i64 1))), []⟩,
 ⟨some 3, none, .q (.mv (.t 32)), []⟩]
def c41_6 : ACode := .block 1 c41_5
def c41_7 : ACode := .seq c41_4 c41_6
def c41_8 : ACode := .loop c41_7
def c41_9 : ACode := .block 0 c41_8
def c41_10 : ACode := .ops [
 ⟨some 33, none, .q (.mv (.t 0)), []⟩,
 ⟨some 34, none, .q (.nc (.t 33)), []⟩,
 ⟨some 35, none, .q (.fa 0 (.t 34)), []⟩,
 ⟨some 36, none, .q (.ld none (.t 35)), []⟩,
 ⟨some 37, none, .q (.mv (.t 0)), []⟩,
 ⟨some 38, none, .q (.nc (.t 37)), []⟩,
 ⟨some 39, none, .q (.fa 1 (.t 38)), []⟩,
 ⟨some 40, none, .q (.ld none (.t 39)), []⟩,
 ⟨some 41, none, .q (.mv (.t 0)), []⟩,
 ⟨some 42, none, .q (.nc (.t 41)), []⟩,
 ⟨some 43, none, .q (.fa 1 (.t 42)), []⟩,
 ⟨some 44, none, .q (.ld none (.t 43)), []⟩,
 ⟨some 45, none, .q (.mv (.t 3)), []⟩,
 ⟨some 46, none, .q (.bin .add (.t 44) (.t 45)), []⟩,
 ⟨some 47, none, .q (.sls (true, 0) (.t 36) (.t 40) (.t 46)), []⟩,
 ⟨some 4, none, .q (.mv (.t 47)), []⟩]
def c41_11 : ACode := .ops [
 ⟨some 49, none, .q (.mv (.t 4)), []⟩,
 ⟨some 50, none, .e (.call 62 [(.t 49)]), []⟩,
 ⟨some 48, none, .q (.mv (.t 50)), []⟩]
def c41_12 : ACode := .ops [
 ⟨some 51, none, .q (.mv (.t 0)), []⟩,
 ⟨some 52, none, .q (.mv (.t 4)), []⟩,
 ⟨some 53, none, .q (.mv (.t 3)), []⟩,
 ⟨some 54, none, .e (.call 21 [(.t 51), (.v (.int .i64 1)), (.t 52), (.t 53)]), []⟩]
def c41_13 : ACode := .ops [
 ⟨some 56, none, .q (.mv (.t 4)), []⟩,
 ⟨some 57, none, .e (.call 63 [(.t 56)]), []⟩,
 ⟨some 55, none, .q (.mv (.t 57)), []⟩]
def c41_14 : ACode := .ops [
 ⟨some 58, none, .q (.mv (.t 0)), []⟩,
 ⟨some 59, none, .q (.mv (.t 4)), []⟩,
 ⟨some 60, none, .e (.call 64 [(.t 59)]), []⟩,
 ⟨some 61, none, .q (.mv (.t 3)), []⟩,
 ⟨some 62, none, .e (.call 21 [(.t 58), (.v (.int .i64 4)), (.t 60), (.t 61)]), []⟩]
def c41_15 : ACode := .ops [
 ⟨some 64, none, .q (.mv (.t 4)), []⟩,
 ⟨some 65, none, .e (.call 65 [(.t 64)]), []⟩,
 ⟨some 63, none, .q (.mv (.t 65)), []⟩]
def c41_16 : ACode := .ops [
 ⟨some 66, none, .q (.mv (.t 0)), []⟩,
 ⟨some 67, none, .q (.mv (.t 4)), []⟩,
 ⟨some 68, none, .e (.call 64 [(.t 67)]), []⟩,
 ⟨some 69, none, .q (.mv (.t 3)), []⟩,
 ⟨some 70, none, .e (.call 21 [(.t 66), (.v (.int .i64 3)), (.t 68), (.t 69)]), []⟩]
def c41_17 : ACode := .ops [
 ⟨some 2, none, .q (.mv (.v (.int .i64 10))), []⟩]
def c41_18 : ACode := .seq c41_17 .ret
def c41_19 : ACode := .cond (.t 63) c41_16 c41_18
def c41_20 : ACode := .seq c41_15 c41_19
def c41_21 : ACode := .cond (.t 55) c41_14 c41_20
def c41_22 : ACode := .seq c41_13 c41_21
def c41_23 : ACode := .cond (.t 48) c41_12 c41_22
def c41_24 : ACode := .seq c41_11 c41_23
def c41_25 : ACode := .block 2 c41_24
def c41_26 : ACode := .ops [
 ⟨some 2, none, .q (.mv (.v (.int .i64 0))), []⟩]
def c41_27 : ACode := .seq c41_26 .ret
def c41_28 : ACode := .seq c41_25 c41_27
def c41_29 : ACode := .seq c41_10 c41_28
def c41_30 : ACode := .seq c41_9 c41_29
def c41_31 : ACode := .seq c41_1 c41_30
def c41_32 : ACode := .seq c41_0 c41_31
@[go_sem] def c41_0_wp := wp_of c41_0.eq_1
@[go_sem] def c41_1_wp := wp_of c41_1.eq_1
@[go_sem] def c41_2_wp := wp_of c41_2.eq_1
@[go_sem] def c41_3_wp := wp_of c41_3.eq_1
@[go_sem] def c41_4_wp := wp_of c41_4.eq_1
@[go_sem] def c41_5_wp := wp_of c41_5.eq_1
@[go_sem] def c41_6_wp := wp_of c41_6.eq_1
@[go_sem] def c41_7_wp := wp_of c41_7.eq_1
@[go_sem] def c41_8_wp := wp_of c41_8.eq_1
@[go_sem] def c41_9_wp := wp_of c41_9.eq_1
@[go_sem] def c41_10_wp := wp_of c41_10.eq_1
@[go_sem] def c41_11_wp := wp_of c41_11.eq_1
@[go_sem] def c41_12_wp := wp_of c41_12.eq_1
@[go_sem] def c41_13_wp := wp_of c41_13.eq_1
@[go_sem] def c41_14_wp := wp_of c41_14.eq_1
@[go_sem] def c41_15_wp := wp_of c41_15.eq_1
@[go_sem] def c41_16_wp := wp_of c41_16.eq_1
@[go_sem] def c41_17_wp := wp_of c41_17.eq_1
@[go_sem] def c41_18_wp := wp_of c41_18.eq_1
@[go_sem] def c41_19_wp := wp_of c41_19.eq_1
@[go_sem] def c41_20_wp := wp_of c41_20.eq_1
@[go_sem] def c41_21_wp := wp_of c41_21.eq_1
@[go_sem] def c41_22_wp := wp_of c41_22.eq_1
@[go_sem] def c41_23_wp := wp_of c41_23.eq_1
@[go_sem] def c41_24_wp := wp_of c41_24.eq_1
@[go_sem] def c41_25_wp := wp_of c41_25.eq_1
@[go_sem] def c41_26_wp := wp_of c41_26.eq_1
@[go_sem] def c41_27_wp := wp_of c41_27.eq_1
@[go_sem] def c41_28_wp := wp_of c41_28.eq_1
@[go_sem] def c41_29_wp := wp_of c41_29.eq_1
@[go_sem] def c41_30_wp := wp_of c41_30.eq_1
@[go_sem] def c41_31_wp := wp_of c41_31.eq_1
@[go_sem] def c41_32_wp := wp_of c41_32.eq_1
def c41 : AFn := ⟨71, [.t 2], c41_32⟩
theorem c41_ok : compF Tryz.prog Tryz.f41 = some c41 := by kernel_rfl
theorem a41 {args : List AV} {σ : ASt} {R : AV → ASt → Prop} (hl : args.length ≤ 71) (h : c41_32.wp Tryz.prog (RetQ [.t 2] R) (init args) σ) : ACalls Tryz.prog 41 args σ R := acalls_of Tryz.func41 c41_ok hl h
/-! 42: (*tabular/token.lexer).quoted -/
def c42_0 : ACode := .ops [
 ⟨some 2, none, .q (.mv (.v (.int .i64 0))), []⟩]
def c42_1 : ACode := .ops [
 ⟨some 3, none, .e (.allocT 55), []⟩]
def c42_2 : ACode := .ops [
 ⟨some 4, none, .q (.mv (.v (.bool true))), []⟩]
def c42_3 : ACode := .ops [
 ⟨some 5, none, .q (.mv (.v (.int .i64 1))), []⟩]
def c42_4 : ACode := .ops [
 ⟨some 11, none, .q (.mv (.t 0)), []⟩,
 ⟨some 12, none, .q (.nc (.t 11)), []⟩,
 ⟨some 13, none, .q (.fa 0 (.t 12)), []⟩,
 ⟨some 14, none, .q (.ld none (.t 13)), []⟩,
 ⟨some 15, none, .q (.mv (.t 0)), []⟩,
 ⟨some 16, none, .q (.nc (.t 15)), []⟩,
 ⟨some 17, none, .q (.fa 1 (.t 16)), []⟩,
 ⟨some 18, none, .q (.ld none (.t 17)), []⟩,
 ⟨some 19, none, .q (.bin .add (.t 18) (.v (.int .i64 1))), []⟩,
 ⟨some 20, none, .q (.slfrom (true, 0) (.t 14) (.t 19)), []⟩,
 ⟨some 21, none, .e (.rng (.t 20)), []⟩]
def c42_5 : ACode := .ops [
 ⟨some 22, none, .e (.nxt (.t 21)), []⟩,
 ⟨some 23, none, .q (.ext 0 (.t 22)), []⟩]
def c42_6 : ACode := .cond (.t 23) .skip (.exit 0)
def c42_7 : ACode := .ops [
 ⟨some 24, none, .q (.ext 1 (.t 22)), []⟩,
 ⟨some 25, none, .q (.ext 2 (.t 22)), []⟩,
 ⟨some 6, none, .q (.mv (.t 24)), []⟩,
 ⟨some 7, none, .q (.mv (.t 25)), []⟩]
def c42_8 : ACode := .ops [
 ⟨some 26, none, .q (.mv (.t 6)), []⟩,
 ⟨some 27, none, .q (.bin .add (.t 26) (.v (.int .i64 1))), []⟩,
 ⟨some 28, none, .q (.mv (.t 5)), []⟩,
 ⟨some 29, none, .q (.bin .lss (.t 27) (.t 28)), []⟩]
def c42_9 : ACode := .cond (.t 29) (.exit 1) .skip
def c42_10 : ACode := .seq c42_8 c42_9
def c42_11 : ACode := .ops [
 ⟨some 30, none, .q (.mv (.t 0)), []⟩,
 ⟨some 31, none, .q (.nc (.t 30)), []⟩,
 ⟨some 32, none, .q (.fa 1 (.t 31)), []⟩,
 ⟨some 33, none, .q (.ld none (.t 32)), []⟩,
 ⟨some 34, none, .q (.bin .add (.t 33) (.v (.int .i64 1))), []⟩,
 ⟨some 35, none, .q (.mv (.t 6)), []⟩,
 ⟨some 36, none, .q (.bin .add (.t 34) (.t 35)), []⟩,
 ⟨some 8, none, .q (.mv (.t 36)), []⟩]
def c42_12 : ACode := .ops [
 ⟨some 37, none, .q (.mv (.t 7)), []⟩,
 ⟨some 38, none, .q (.bin .eql (.t 37) (.v (.int .i32 65533))), []⟩]
def c42_13 : ACode := .ops [
 ⟨some 40, none, .q (.mv (.t 0)), []⟩,
 ⟨some 41, none, .q (.nc (.t 40)), []⟩,
 ⟨some 42, none, .q (.fa 0 (.t 41)), []⟩,
 ⟨some 43, none, .q (.ld none (.t 42)), []⟩,
 ⟨some 44, none, .q (.mv (.t 8)), []⟩,
 ⟨some 45, none, .q (.slfrom (true, 0) (.t 43) (.t 44)), []⟩,
 ⟨some 46, none, .e (.call 61 [(.t 45)]), []⟩,
 ⟨some 39, none, .q (.mv (.t 46)), []⟩,
 ⟨some 47, none, .q (.ext 0 (.t 39)), []⟩,
 ⟨some 48, none, .q (.ext 1 (.t 39)), []⟩,
 ⟨some 9, none, .q (.mv (.t 47)), []⟩,
 ⟨some 10, none, .q (.mv (.t 48)), []⟩]
def c42_14 : ACode := .ops [
 ⟨some 49, none, .q (.mv (.t 10)), []⟩,
 ⟨some 50, none, .q (.bin .eql (.t 49) (.v (.int .i64 1))), []⟩]
def c42_15 : ACode := .ops [
 ⟨some 51, none, .q (.mv (.t 0)), []⟩,
 ⟨some 52, none, .q (.mv (.t 8)), []⟩,
 ⟨some 53, none, .e (.call 39 [(.t 51), (.t 52)]), []⟩]
def c42_16 : ACode := .ops [
 ⟨some 2, none, .q (.mv (.v (.int .i64 10))), []⟩]
def c42_17 : ACode := .seq c42_16 .ret
def c42_18 : ACode := .seq c42_15 c42_17
def c42_19 : ACode := .cond (.t 50) c42_18 .skip
def c42_20 : ACode := .seq c42_14 c42_19
def c42_21 : ACode := .seq c42_13 c42_20
def c42_22 : ACode := .cond (.t 38) c42_21 .skip
def c42_23 : ACode := .seq c42_12 c42_22
def c42_24 : ACode := .ops [
 ⟨some 54, none, .q (.mv (.t 7)), []⟩,
 ⟨some 55, none, .q (.bin .neq (.t 54) (.v (.int .i32 34))), []⟩]
def c42_25 : ACode := .ops [
 ⟨some 56, none, .q (.mv (.t 7)), []⟩,
 ⟨some 57, none, .e (.call 66 [(.t 3), (.t 56)]), []⟩]
def c42_26 : ACode := .ops [
 ⟨some 58, none, .q (.mv (.t 6)), []⟩,
 ⟨some 59, none, .q (.bin .add (.t 58) (.v (.int .i64 1))), []⟩,
 ⟨some 60, none, .q (.mv (.t 7)), []⟩,
 ⟨some 61, none, .e (.call 67 [(.t 60)]), []⟩,
 ⟨some 62, none, .q (.bin .add (.t 59) (.t 61)), []⟩,
 ⟨some 5, none, .q (.mv (.t 62)), []⟩]
def c42_27 : ACode := .seq c42_26 (.exit 1)
def c42_28 : ACode := .seq c42_25 c42_27
def c42_29 : ACode := .cond (.t 55) c42_28 .skip
def c42_30 : ACode := .seq c42_24 c42_29
def c42_31 : ACode := .ops [
 ⟨some 63, none, .q (.mv (.t 8)), []⟩,
 ⟨some 64, none, .q (.bin .add (.t 63) (.v (.int .i64 1))), []⟩,
 ⟨some 65, none, .q (.mv (.t 0)), []⟩,
 ⟨some 66, none, .q (.nc (.t 65)), []⟩,
 ⟨some 67, none, .q (.fa 0 (.t 66)), []⟩,
 ⟨some 68, none, .q (.ld none (.t 67)), []⟩,
 ⟨some 69, none, .q (.lenS (.t 68)), []⟩,
 ⟨some 70, none, .q (.bin .lss (.t 64) (.t 69)), []⟩,
 ⟨some 71, none, .q (.mv (.t 70)), []⟩,
 ⟨some 72, some (71, true), .q (.mv (.t 0)), []⟩,
 ⟨some 73, some (71, true), .q (.nc (.t 72)), []⟩,
 ⟨some 74, some (71, true), .q (.fa 0 (.t 73)), []⟩,
 ⟨some 75, some (71, true), .q (.ld none (.t 74)), []⟩,
 ⟨some 76, some (71, true), .q (.mv (.t 8)), []⟩,
 ⟨some 77, some (71, true), .q (.bin .add (.t 76) (.v (.int .i64 1))), []⟩,
 ⟨some 78, some (71, true), .q (.idx (.t 75) (.t 77)), []⟩,
 ⟨some 79, some (71, true), .q (.bin .eql (.t 78) (.v (.int .u8 34))), []⟩,
 ⟨some 80, none, .q (.pick (.t 71) (.t 79) (.v (.bool false))), []⟩]
def c42_32 : ACode := .ops [
 ⟨some 81, none, .e (.call 33 [(.t 3), (.v (.int .u8 34))]), []⟩]
def c42_33 : ACode := .ops [
 ⟨some 82, none, .q (.mv (.t 6)), []⟩,
 ⟨some 83, none, .q (.bin .add (.t 82) (.v (.int .i64 3))), []⟩,
 ⟨some 5, none, .q (.mv (.t 83)), []⟩]
def c42_34 : ACode := .seq c42_33 (.exit 1)
def c42_35 : ACode := .seq c42_32 c42_34
def c42_36 : ACode := .cond (.t 80) c42_35 .skip
def c42_37 : ACode := .seq c42_31 c42_36
def c42_38 : ACode := .ops [
 ⟨some 84, none, .q (.mv (.t 6)), []⟩,
 ⟨some 85, none, .q (.bin .add (.t 84) (.v (.int .i64 2))), []⟩,
 ⟨some 5, none, .q (.mv (.t 85)), []⟩]
def c42_39 : ACode := .ops [
 ⟨some 4, none, .q (.mv (.v (.bool false))), []⟩]
def c42_40 : ACode := .seq c42_39 (.exit 0)
def c42_41 : ACode := .seq c42_38 c42_40
def c42_42 : ACode := .seq c42_37 c42_41
def c42_43 : ACode := .seq c42_30 c42_42
def c42_44 : ACode := .seq c42_23 c42_43
def c42_45 : ACode := .seq c42_11 c42_44
def c42_46 : ACode := .seq c42_10 c42_45
def c42_47 : ACode := .seq c42_7 c42_46
def c42_48 : ACode := .block 1 c42_47
def c42_49 : ACode := .seq c42_6 c42_48
def c42_50 : ACode := .seq c42_5 c42_49
def c42_51 : ACode := .loop c42_50
def c42_52 : ACode := .block 0 c42_51
def c42_53 : ACode := .seq c42_4 c42_52
def c42_54 : ACode := .ops [
 ⟨some 86, none, .q (.mv (.t 4)), []⟩]
def c42_55 : ACode := .ops [
 ⟨some 2, none, .q (.mv (.v (.int .i64 10))), []⟩]
def c42_56 : ACode := .seq c42_55 .ret
def c42_57 : ACode := .cond (.t 86) c42_56 .skip
def c42_58 : ACode := .seq c42_54 c42_57
def c42_59 : ACode := .ops [
 ⟨some 87, none, .q (.mv (.t 0)), []⟩,
 ⟨some 88, none, .e (.call 17 [(.t 3)]), []⟩,
 ⟨some 89, none, .q (.mv (.t 5)), []⟩,
 ⟨some 90, none, .e (.call 21 [(.t 87), (.v (.int .i64 2)), (.t 88), (.t 89)]), []⟩]
def c42_60 : ACode := .ops [
 ⟨some 2, none, .q (.mv (.v (.int .i64 0))), []⟩]
def c42_61 : ACode := .seq c42_60 .ret
def c42_62 : ACode := .seq c42_59 c42_61
def c42_63 : ACode := .seq c42_58 c42_62
def c42_64 : ACode := .seq c42_53 c42_63
def c42_65 : ACode := .seq c42_3 c42_64
def c42_66 : ACode := .seq c42_2 c42_65
def c42_67 : ACode := .seq c42_1 c42_66
def c42_68 : ACode := .seq c42_0 c42_67
@[go_sem] def c42_0_wp := wp_of c42_0.eq_1
@[go_sem] def c42_1_wp := wp_of c42_1.eq_1
@[go_sem] def c42_2_wp := wp_of c42_2.eq_1
@[go_sem] def c42_3_wp := wp_of c42_3.eq_1
@[go_sem] def c42_4_wp := wp_of c42_4.eq_1
@[go_sem] def c42_5_wp := wp_of c42_5.eq_1
@[go_sem] def c42_6_wp := wp_of c42_6.eq_1
@[go_sem] def c42_7_wp := wp_of c42_7.eq_1
@[go_sem] def c42_8_wp := wp_of c42_8.eq_1
@[go_sem] def c42_9_wp := wp_of c42_9.eq_1
@[go_sem] def c42_10_wp := wp_of c42_10.eq_1
@[go_sem] def c42_11_wp := wp_of c42_11.eq_1
@[go_sem] def c42_12_wp := wp_of c42_12.eq_1
@[go_sem] def c42_13_wp := wp_of c42_13.eq_1
@[go_sem] def c42_14_wp := wp_of c42_14.eq_1
@[go_sem] def c42_15_wp := wp_of c42_15.eq_1
@[go_sem] def c42_16_wp := wp_of c42_16.eq_1
@[go_sem] def c42_17_wp := wp_of c42_17.eq_1
@[go_sem] def c42_18_wp := wp_of c42_18.eq_1
@[go_sem] def c42_19_wp := wp_of c42_19.eq_1
@[go_sem] def c42_20_wp := wp_of c42_20.eq_1
@[go_sem] def c42_21_wp := wp_of c42_21.eq_1
@[go_sem] def c42_22_wp := wp_of c42_22.eq_1
@[go_sem] def c42_23_wp := wp_of c42_23.eq_1
@[go_sem] def c42_24_wp := wp_of c42_24.eq_1
@[go_sem] def c42_25_wp := wp_of c42_25.eq_1
@[go_sem] def c42_26_wp := wp_of c42_26.eq_1
@[go_sem] def c42_27_wp := wp_of c42_27.eq_1
@[go_sem] def c42_28_wp := wp_of c42_28.eq_1
@[go_sem] def c42_29_wp := wp_of c42_29.eq_1
@[go_sem] def c42_30_wp := wp_of c42_30.eq_1
@[go_sem] def c42_31_wp := wp_of c42_31.eq_1
@[go_sem] def c42_32_wp := wp_of c42_32.eq_1
@[go_sem] def c42_33_wp := wp_of c42_33.eq_1
@[go_sem] def c42_34_wp := wp_of c42_34.eq_1
@[go_sem] def c42_35_wp := wp_of c42_35.eq_1
@[go_sem] def c42_36_wp := wp_of c42_36.eq_1
@[go_sem] def c42_37_wp := wp_of c42_37.eq_1
@[go_sem] def c42_38_wp := wp_of c42_38.eq_1
@[go_sem] def c42_39_wp := wp_of c42_39.eq_1
@[go_sem] def c42_40_wp := wp_of c42_40.eq_1
@[go_sem] def c42_41_wp := wp_of c42_41.eq_1
@[go_sem] def c42_42_wp := wp_of c42_42.eq_1
@[go_sem] def c42_43_wp := wp_of c42_43.eq_1
@[go_sem] def c42_44_wp := wp_of c42_44.eq_1
@[go_sem] def c42_45_wp := wp_of c42_45.eq_1
@[go_sem] def c42_46_wp := wp_of c42_46.eq_1
@[go_sem] def c42_47_wp := wp_of c42_47.eq_1
@[go_sem] def c42_48_wp := wp_of c42_48.eq_1
@[go_sem] def c42_49_wp := wp_of c42_49.eq_1
@[go_sem] def c42_50_wp := wp_of c42_50.eq_1
@[go_sem] def c42_51_wp := wp_of c42_51.eq_1
@[go_sem] def c42_52_wp := wp_of c42_52.eq_1
@[go_sem] def c42_53_wp := wp_of c42_53.eq_1
@[go_sem] def c42_54_wp := wp_of c42_54.eq_1
@[go_sem] def c42_55_wp := wp_of c42_55.eq_1
@[go_sem] def c42_56_wp := wp_of c42_56.eq_1
@[go_sem] def c42_57_wp := wp_of c42_57.eq_1
@[go_sem] def c42_58_wp := wp_of c42_58.eq_1
@[go_sem] def c42_59_wp := wp_of c42_59.eq_1
@[go_sem] def c42_60_wp := wp_of c42_60.eq_1
@[go_sem] def c42_61_wp := wp_of c42_61.eq_1
@[go_sem] def c42_62_wp := wp_of c42_62.eq_1
@[go_sem] def c42_63_wp := wp_of c42_63.eq_1
@[go_sem] def c42_64_wp := wp_of c42_64.eq_1
@[go_sem] def c42_65_wp := wp_of c42_65.eq_1
@[go_sem] def c42_66_wp := wp_of c42_66.eq_1
@[go_sem] def c42_67_wp := wp_of c42_67.eq_1
@[go_sem] def c42_68_wp := wp_of c42_68.eq_1
def c42 : AFn := ⟨91, [.t 2], c42_68⟩
theorem c42_ok : compF Tryz.prog Tryz.f42 = some c42 := by kernel_rfl
theorem a42 {args : List AV} {σ : ASt} {R : AV → ASt → Prop} (hl : args.length ≤ 91) (h : c42_68.wp Tryz.prog (RetQ [.t 2] R) (init args) σ) : ACalls Tryz.prog 42 args σ R := acalls_of Tryz.func42 c42_ok hl h
/-! 43: (*tabular/token.lexer).failure -/
def c43_0 : ACode := .ops [
 ⟨some 2, none, .q (.mv (.v (.int .i64 0))), []⟩]
def c43_1 : ACode := .ops [
 ⟨some 6, none, .e (.call 56 []), []⟩,
 ⟨some 7, none, .q (.len (.t 6)), []⟩,
 ⟨some 8, none, .q (.mv (.v (.int .i64 0))), []⟩]
def c43_2 : ACode := .ops [
 ⟨some 9, none, .q (.bin .lss (.t 8) (.t 7)), []⟩]
def c43_3 : ACode := .cond (.t 9) .skip (.exit 0)
def c43_4 : ACode := .ops [
 ⟨some 10, none, .q (.ia 1 (.t 6) (.t 8)), []⟩,
 ⟨some 11, none, .q (.ld none (.t 10)), []⟩,
 ⟨some 4, none, .q (.mv (.t 11)), []⟩]
def c43_5 : ACode := .ops [
 ⟨some 12, none, .q (.mv (.t 4)), []⟩,
 ⟨some 13, none, .q (.lenS (.t 12)), []⟩,
 ⟨some 5, none, .q (.mv (.t 13)), []⟩]
def c43_6 : ACode := .ops [
 ⟨some 14, none, .q (.mv (.t 0)), []⟩,
 ⟨some 15, none, .q (.nc (.t 14)), []⟩,
 ⟨some 16, none, .q (.fa 1 (.t 15)), []⟩,
 ⟨some 17, none, .q (.ld none (.t 16)), []⟩,
 ⟨some 18, none, .q (.mv (.t 5)), []⟩,
 ⟨some 19, none, .q (.bin .add (.t 17) (.t 18)), []⟩,
 ⟨some 20, none, .q (.mv (.t 0)), []⟩,
 ⟨some 21, none, .q (.nc (.t 20)), []⟩,
 ⟨some 22, none, .q (.fa 0 (.t 21)), []⟩,
 ⟨some 23, none, .q (.ld none (.t 22)), []⟩,
 ⟨some 24, none, .q (.lenS (.t 23)), []⟩,
 ⟨some 25, none, .q (.bin .leq (.t 19) (.t 24)), []⟩,
 ⟨some 26, none, .q (.mv (.t 25)), []⟩,
 ⟨some 27, some (26, true), .q (.mv (.t 0)), []⟩,
 ⟨some 28, some (26, true), .q (.nc (.t 27)), []⟩,
 ⟨some 29, some (26, true), .q (.fa 0 (.t 28)), []⟩,
 ⟨some 30, some (26, true), .q (.ld none (.t 29)), []⟩,
 ⟨some 31, some (26, true), .q (.mv (.t 0)), []⟩,
 ⟨some 32, some (26, true), .q (.nc (.t 31)), []⟩,
 ⟨some 33, some (26, true), .q (.fa 1 (.t 32)), []⟩,
 ⟨some 34, some (26, true), .q (.ld none (.t 33)), []⟩,
 ⟨some 35, some (26, true), .q (.mv (.t 0)), []⟩,
 ⟨some 36, some (26, true), .q (.nc (.t 35)), []⟩,
 ⟨some 37, some (26, true), .q (.fa 1 (.t 36)), []⟩,
 ⟨some 38, some (26, true), .q (.ld none (.t 37)), []⟩,
 ⟨some 39, some (26, true), .q (.mv (.t 5)), []⟩,
 ⟨some 40, some (26, true), .q (.bin .add (.t 38) (.t 39)), []⟩,
 ⟨some 41, some (26, true), .q (.sls (true, 0) (.t 30) (.t 34) (.t 40)), []⟩,
 ⟨some 43, some (26, true), .q (.mv (.t 4)), []⟩,
 ⟨some 42, some (26, true), .e (.call 64 [(.t 41)]), []⟩,
 ⟨some 44, some (26, true), .q (.bin .eql (.t 42) (.t 43)), []⟩,
 ⟨some 45, none, .q (.pick (.t 26) (.t 44) (.v (.bool false))), []⟩]
def c43_7 : ACode := .ops [
 ⟨some 46, none, .q (.mv (.t 0)), []⟩,
 ⟨some 47, none, .q (.mv (.t 4)), []⟩,
 ⟨some 48, none, .q (.mv (.t 5)), []⟩,
 ⟨some 49, none, .e (.call 21 [(.t 46), (.v (.int .i64 5)), (.t 47), (.t 48)]), []⟩]
def c43_8 : ACode := .ops [
 ⟨some 2, none, .q (.mv (.v (.int .i64 0))), []⟩]
def c43_9 : ACode := .seq c43_8 .ret
def c43_10 : ACode := .seq c43_7 c43_9
def c43_11 : ACode := .cond (.t 45) c43_10 .skip
def c43_12 : ACode := .seq c43_6 c43_11
def c43_13 : ACode := .seq c43_5 c43_12
def c43_14 : ACode := .seq c43_4 c43_13
def c43_15 : ACode := .block 1 c43_14
def c43_16 : ACode := .ops [
 ⟨some 50, none, .q (.bin .add (.t 8) (.v (.int .i64 1))), []⟩,
 ⟨some 8, none, .q (.mv (.t 50)), []⟩]
def c43_17 : ACode := .seq c43_15 c43_16
def c43_18 : ACode := .seq c43_3 c43_17
def c43_19 : ACode := .seq c43_2 c43_18
def c43_20 : ACode := .loop c43_19
def c43_21 : ACode := .block 0 c43_20
def c43_22 : ACode := .seq c43_1 c43_21
def c43_23 : ACode := .ops [
 ⟨some 2, none, .q (.mv (.v (.int .i64 10))), []⟩]
def c43_24 : ACode := .seq c43_23 .ret
def c43_25 : ACode := .seq c43_22 c43_24
def c43_26 : ACode := .seq c43_0 c43_25
@[go_sem] def c43_0_wp := wp_of c43_0.eq_1
@[go_sem] def c43_1_wp := wp_of c43_1.eq_1
@[go_sem] def c43_2_wp := wp_of c43_2.eq_1
@[go_sem] def c43_3_wp := wp_of c43_3.eq_1
@[go_sem] def c43_4_wp := wp_of c43_4.eq_1
@[go_sem] def c43_5_wp := wp_of c43_5.eq_1
@[go_sem] def c43_6_wp := wp_of c43_6.eq_1
@[go_sem] def c43_7_wp := wp_of c43_7.eq_1
@[go_sem] def c43_8_wp := wp_of c43_8.eq_1
@[go_sem] def c43_9_wp := wp_of c43_9.eq_1
@[go_sem] def c43_10_wp := wp_of c43_10.eq_1
@[go_sem] def c43_11_wp := wp_of c43_11.eq_1
@[go_sem] def c43_12_wp := wp_of c43_12.eq_1
@[go_sem] def c43_13_wp := wp_of c43_13.eq_1
@[go_sem] def c43_14_wp := wp_of c43_14.eq_1
@[go_sem] def c43_15_wp := wp_of c43_15.eq_1
@[go_sem] def c43_16_wp := wp_of c43_16.eq_1
@[go_sem] def c43_17_wp := wp_of c43_17.eq_1
@[go_sem] def c43_18_wp := wp_of c43_18.eq_1
@[go_sem] def c43_19_wp := wp_of c43_19.eq_1
@[go_sem] def c43_20_wp := wp_of c43_20.eq_1
@[go_sem] def c43_21_wp := wp_of c43_21.eq_1
@[go_sem] def c43_22_wp := wp_of c43_22.eq_1
@[go_sem] def c43_23_wp := wp_of c43_23.eq_1
@[go_sem] def c43_24_wp := wp_of c43_24.eq_1
@[go_sem] def c43_25_wp := wp_of c43_25.eq_1
@[go_sem] def c43_26_wp := wp_of c43_26.eq_1
def c43 : AFn := ⟨51, [.t 2], c43_26⟩
theorem c43_ok : compF Tryz.prog Tryz.f43 = some c43 := by kernel_rfl
theorem a43 {args : List AV} {σ : ASt} {R : AV → ASt → Prop} (hl : args.length ≤ 51) (h : c43_26.wp Tryz.prog (RetQ [.t 2] R) (init args) σ) : ACalls Tryz.prog 43 args σ R := acalls_of Tryz.func43 c43_ok hl h
/-! 44: (*tabular/token.lexer).op -/
def c44_0 : ACode := .ops [
 ⟨some 6, none, .q (.mv (.v (.int .i64 0))), []⟩]
def c44_1 : ACode := .ops [
 ⟨some 10, none, .q (.mv (.t 1)), []⟩,
 ⟨some 11, none, .e (.call 68 [(.t 10)]), []⟩,
 ⟨some 7, none, .q (.mv (.t 11)), []⟩]
def c44_2 : ACode := .ops [
 ⟨some 12, none, .q (.mv (.t 7)), []⟩,
 ⟨some 13, none, .q (.bin .neq (.t 12) (.v (.str []))), []⟩]
def c44_3 : ACode := .ops [
 ⟨some 14, none, .q (.mv (.t 0)), []⟩,
 ⟨some 15, none, .q (.mv (.t 7)), []⟩,
 ⟨some 16, none, .q (.mv (.t 2)), []⟩,
 ⟨some 17, none, .e (.call 21 [(.t 14), (.v (.int .i64 6)), (.t 15), (.t 16)]), []⟩]
def c44_4 : ACode := .ops [
 ⟨some 6, none, .q (.mv (.v (.int .i64 0))), []⟩]
def c44_5 : ACode := .seq c44_4 .ret
def c44_6 : ACode := .seq c44_3 c44_5
def c44_7 : ACode := .cond (.t 13) c44_6 .skip
def c44_8 : ACode := .seq c44_2 c44_7
def c44_9 : ACode := .seq c44_1 c44_8
def c44_10 : ACode := .ops [
 ⟨some 18, none, .q (.bsl 1 [(.v (.str [60, 61])), (.v (.str [62, 61])), (.v (.str [60, 62]))]), []⟩,
 ⟨some 19, none, .q (.len (.t 18)), []⟩,
 ⟨some 20, none, .q (.mv (.v (.int .i64 0))), []⟩]
def c44_11 : ACode := .ops [
 ⟨some 21, none, .q (.bin .lss (.t 20) (.t 19)), []⟩]
def c44_12 : ACode := .cond (.t 21) .skip (.exit 0)
def c44_13 : ACode := .ops [
 ⟨some 22, none, .q (.ia 1 (.t 18) (.t 20)), []⟩,
 ⟨some 23, none, .q (.ld none (.t 22)), []⟩,
 ⟨some 9, none, .q (.mv (.t 23)), []⟩]
def c44_14 : ACode := .ops [
 ⟨some 24, none, .q (.mv (.t 0)), []⟩,
 ⟨some 25, none, .q (.nc (.t 24)), []⟩,
 ⟨some 26, none, .q (.fa 0 (.t 25)), []⟩,
 ⟨some 27, none, .q (.ld none (.t 26)), []⟩,
 ⟨some 28, none, .q (.mv (.t 0)), []⟩,
 ⟨some 29, none, .q (.nc (.t 28)), []⟩,
 ⟨some 30, none, .q (.fa 1 (.t 29)), []⟩,
 ⟨some 31, none, .q (.ld none (.t 30)), []⟩,
 ⟨some 32, none, .q (.slfrom (true, 0) (.t 27) (.t 31)), []⟩,
 ⟨some 33, none, .q (.mv (.t 9)), []⟩,
 ⟨some 34, none, .e (.call 69 [(.t 32), (.t 33)]), []⟩]
def c44_15 : ACode := .ops [
 ⟨some 35, none, .q (.mv (.t 0)), []⟩,
 ⟨some 36, none, .q (.mv (.t 9)), []⟩,
 ⟨some 37, none, .e (.call 21 [(.t 35), (.v (.int .i64 6)), (.t 36), (.v (.int .i64 2))]), []⟩]
def c44_16 : ACode := .ops [
 ⟨some 6, none, .q (.mv (.v (.int .i64 0))), []⟩]
def c44_17 : ACode := .seq c44_16 .ret
def c44_18 : ACode := .seq c44_15 c44_17
def c44_19 : ACode := .cond (.t 34) c44_18 .skip
def c44_20 : ACode := .seq c44_14 c44_19
def c44_21 : ACode := .seq c44_13 c44_20
def c44_22 : ACode := .block 1 c44_21
def c44_23 : ACode := .ops [
 ⟨some 38, none, .q (.bin .add (.t 20) (.v (.int .i64 1))), []⟩,
 ⟨some 20, none, .q (.mv (.t 38)), []⟩]
def c44_24 : ACode := .seq c44_22 c44_23
def c44_25 : ACode := .seq c44_12 c44_24
def c44_26 : ACode := .seq c44_11 c44_25
def c44_27 : ACode := .loop c44_26
def c44_28 : ACode := .block 0 c44_27
def c44_29 : ACode := .seq c44_10 c44_28
def c44_30 : ACode := .ops [
 ⟨some 39, none, .q (.mv (.t 0)), []⟩,
 ⟨some 40, none, .q (.nc (.t 39)), []⟩,
 ⟨some 41, none, .q (.fa 0 (.t 40)), []⟩,
 ⟨some 42, none, .q (.ld none (.t 41)), []⟩,
 ⟨some 43, none, .q (.mv (.t 0)), []⟩,
 ⟨some 44, none, .q (.nc (.t 43)), []⟩,
 ⟨some 45, none, .q (.fa 1 (.t 44)), []⟩,
 ⟨some 46, none, .q (.ld none (.t 45)), []⟩,
 ⟨some 47, none, .q (.idx (.t 42) (.t 46)), []⟩,
 ⟨some 48, none, .q (.bsl 1 [(.t 47)]), []⟩,
 ⟨some 49, none, .q (.b2s (.t 48)), []⟩,
 ⟨some 50, none, .e (.call 70 [(.v (.str [43, 45, 42, 47, 94, 38, 61, 60, 62, 37, 40, 41, 58, 44])), (.t 49)]), []⟩,
 ⟨some 51, none, .q (.un .not (.t 50)), []⟩]
def c44_31 : ACode := .ops [
 ⟨some 6, none, .q (.mv (.v (.int .i64 10))), []⟩]
def c44_32 : ACode := .seq c44_31 .ret
def c44_33 : ACode := .cond (.t 51) c44_32 .skip
def c44_34 : ACode := .seq c44_30 c44_33
def c44_35 : ACode := .ops [
 ⟨some 52, none, .q (.mv (.t 0)), []⟩,
 ⟨some 53, none, .q (.mv (.t 0)), []⟩,
 ⟨some 54, none, .q (.nc (.t 53)), []⟩,
 ⟨some 55, none, .q (.fa 0 (.t 54)), []⟩,
 ⟨some 56, none, .q (.ld none (.t 55)), []⟩,
 ⟨some 57, none, .q (.mv (.t 0)), []⟩,
 ⟨some 58, none, .q (.nc (.t 57)), []⟩,
 ⟨some 59, none, .q (.fa 1 (.t 58)), []⟩,
 ⟨some 60, none, .q (.ld none (.t 59)), []⟩,
 ⟨some 61, none, .q (.mv (.t 0)), []⟩,
 ⟨some 62, none, .q (.nc (.t 61)), []⟩,
 ⟨some 63, none, .q (.fa 1 (.t 62)), []⟩,
 ⟨some 64, none, .q (.ld none (.t 63)), []⟩,
 ⟨some 65, none, .q (.bin .add (.t 64) (.v (.int .i64 1))), []⟩,
 ⟨some 66, none, .q (.sls (true, 0) (.t 56) (.t 60) (.t 65)), []⟩,
 ⟨some 67, none, .e (.call 21 [(.t 52), (.v (.int .i64 6)), (.t 66), (.v (.int .i64 1))]), []⟩]
def c44_36 : ACode := .ops [
 ⟨some 6, none, .q (.mv (.v (.int .i64 0))), []⟩]
def c44_37 : ACode := .seq c44_36 .ret
def c44_38 : ACode := .seq c44_35 c44_37
def c44_39 : ACode := .seq c44_34 c44_38
def c44_40 : ACode := .seq c44_29 c44_39
def c44_41 : ACode := .seq c44_9 c44_40
def c44_42 : ACode := .seq c44_0 c44_41
@[go_sem] def c44_0_wp := wp_of c44_0.eq_1
@[go_sem] def c44_1_wp := wp_of c44_1.eq_1
@[go_sem] def c44_2_wp := wp_of c44_2.eq_1
@[go_sem] def c44_3_wp := wp_of c44_3.eq_1
@[go_sem] def c44_4_wp := wp_of c44_4.eq_1
@[go_sem] def c44_5_wp := wp_of c44_5.eq_1
@[go_sem] def c44_6_wp := wp_of c44_6.eq_1
@[go_sem] def c44_7_wp := wp_of c44_7.eq_1
@[go_sem] def c44_8_wp := wp_of c44_8.eq_1
@[go_sem] def c44_9_wp := wp_of c44_9.eq_1
@[go_sem] def c44_10_wp := wp_of c44_10.eq_1
@[go_sem] def c44_11_wp := wp_of c44_11.eq_1
@[go_sem] def c44_12_wp := wp_of c44_12.eq_1
@[go_sem] def c44_13_wp := wp_of c44_13.eq_1
@[go_sem] def c44_14_wp := wp_of c44_14.eq_1
@[go_sem] def c44_15_wp := wp_of c44_15.eq_1
@[go_sem] def c44_16_wp := wp_of c44_16.eq_1
@[go_sem] def c44_17_wp := wp_of c44_17.eq_1
@[go_sem] def c44_18_wp := wp_of c44_18.eq_1
@[go_sem] def c44_19_wp := wp_of c44_19.eq_1
@[go_sem] def c44_20_wp := wp_of c44_20.eq_1
@[go_sem] def c44_21_wp := wp_of c44_21.eq_1
@[go_sem] def c44_22_wp := wp_of c44_22.eq_1
@[go_sem] def c44_23_wp := wp_of c44_23.eq_1
@[go_sem] def c44_24_wp := wp_of c44_24.eq_1
@[go_sem] def c44_25_wp := wp_of c44_25.eq_1
@[go_sem] def c44_26_wp := wp_of c44_26.eq_1
@[go_sem] def c44_27_wp := wp_of c44_27.eq_1
@[go_sem] def c44_28_wp := wp_of c44_28.eq_1
@[go_sem] def c44_29_wp := wp_of c44_29.eq_1
@[go_sem] def c44_30_wp := wp_of c44_30.eq_1
@[go_sem] def c44_31_wp := wp_of c44_31.eq_1
@[go_sem] def c44_32_wp := wp_of c44_32.eq_1
@[go_sem] def c44_33_wp := wp_of c44_33.eq_1
@[go_sem] def c44_34_wp := wp_of c44_34.eq_1
@[go_sem] def c44_35_wp := wp_of c44_35.eq_1
@[go_sem] def c44_36_wp := wp_of c44_36.eq_1
@[go_sem] def c44_37_wp := wp_of c44_37.eq_1
@[go_sem] def c44_38_wp := wp_of c44_38.eq_1
@[go_sem] def c44_39_wp := wp_of c44_39.eq_1
@[go_sem] def c44_40_wp := wp_of c44_40.eq_1
@[go_sem] def c44_41_wp := wp_of c44_41.eq_1
@[go_sem] def c44_42_wp := wp_of c44_42.eq_1
def c44 : AFn := ⟨68, [.t 6], c44_42⟩
theorem c44_ok : compF Tryz.prog Tryz.f44 = some c44 := by kernel_rfl
theorem a44 {args : List AV} {σ : ASt} {R : AV → ASt → Prop} (hl : args.length ≤ 68) (h : c44_42.wp Tryz.prog (RetQ [.t 6] R) (init args) σ) : ACalls Tryz.prog 44 args σ R := acalls_of Tryz.func44 c44_ok hl h
end Go.A
