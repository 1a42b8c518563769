/- Part 7 of what ExprBack leans on: Eb CodeEc Ec CodeEd Ed CodeEe Ee CodeEh Eh. -/
import Derived.Test.YtennoafgkkoeaaaGreatDoorProg
import Derived.KernelRfl
import Derived.Test.YtennoafgkkoeaaaGreatDoorZExprBackf
namespace Go.A
open Go.Proofs Go.Lib
set_option maxRecDepth 100000
set_option linter.unusedSimpArgs false
set_option linter.unusedVariables false
section
variable {T U : TypeId} {σ0 σ : ASt} {b c x : Nat} {l : List UInt8} {r : Role}
theorem BW.role (h : BW T U σ0 b l σ) : σ b ≠ none := by
  rcases h with ⟨_, rfl⟩ | ⟨_, k, hg⟩
  · rw [ASt.set_same]; simp
  · rw [hg.at (ASt.set_same _ _ _)]; simp
theorem BW.at (h : BW T U σ0 b l σ) (hx : x ≠ b) (h0 : σ0 x = some r) : σ x = some r := by
  rcases h with ⟨_, rfl⟩ | ⟨_, k, hg⟩
  · rw [ASt.set_ne hx]; exact h0
  · exact hg.at (by rw [ASt.set_ne hx]; exact h0)
theorem BW.add (h : BW T U σ0 b l σ) (hc : σ c = none) : BW T U (σ0.set c (some r)) b l (σ.set c (some r)) ∧ c ≠ b ∧ σ0 c = none := by
  have hcb : c ≠ b := by rintro rfl; exact h.role hc
  rcases h with ⟨h0, rfl⟩ | ⟨h0, k, h1 | ⟨t, h1, h2, rfl⟩⟩
  · rw [ASt.set_ne hcb] at hc
    exact ⟨.inl ⟨h0, set_swap (Ne.symm hcb)⟩, hcb, hc⟩
  · obtain ⟨h1, h2, rfl⟩ := h1
    rw [ASt.set_ne hcb] at hc
    exact ⟨.inr ⟨h0, k, .inl ⟨h1, h2, set_swap (Ne.symm hcb)⟩⟩, hcb, hc⟩
  · obtain ⟨h3, h4, hc⟩ := set_none hc
    rw [ASt.set_ne hcb] at hc
    obtain ⟨h5, h6, h7⟩ := set_none h2
    refine ⟨.inr ⟨h0, k, .inr ⟨t, h1, ?_, ?_⟩⟩, hcb, hc⟩
    · rw [ASt.set_ne h5, ASt.set_ne (Ne.symm h3)]; exact h7
    · rw [set_swap h4, set_swap (Ne.symm hcb)]
theorem BW.off (h : BW T U (σ0.set c (some r)) b l σ) (hcb : c ≠ b) (hc : σ0 c = none) : ∃ σ', Drop σ σ' ∧ BW T U σ0 b l σ' := by
  rcases h with ⟨h0, rfl⟩ | ⟨h0, k, h1 | ⟨t, h1, h2, rfl⟩⟩
  · refine ⟨_, ?_, .inl ⟨h0, rfl⟩⟩
    rw [set_swap hcb]
    exact Drop.set (by rw [ASt.set_ne hcb]; exact hc)
  · obtain ⟨h1, h2, rfl⟩ := h1
    refine ⟨_, ?_, .inr ⟨h0, k, .inl ⟨h1, h2, rfl⟩⟩⟩
    rw [set_swap hcb]
    exact Drop.set (by rw [ASt.set_ne hcb]; exact hc)
  · obtain ⟨h3, h4, h5⟩ := set_none h2
    obtain ⟨h6, h7, h8⟩ := set_none h5
    refine ⟨(σ0.set b (some (.obj [.ptr b 0, .sl k (bytesAV l)]))).set t (some (.tok (l.length * 1))), ?_, .inr ⟨h0, k, .inr ⟨t, h1, ?_, rfl⟩⟩⟩
    · rw [set_swap hcb, set_swap h7]
      exact Drop.set (by rw [ASt.set_ne h7, ASt.set_ne hcb]; exact hc)
    · rw [ASt.set_ne h3]; exact h8
end
theorem appsB_by {σ σ0 : ASt} {k : SK} {l m : List UInt8} {K : AV → ASt → Prop} (h : GT σ0 σ k l.length 1) (hl : l.length + m.length ≤ 4611686018427)
    (hK : ∀ k' σ', GT σ0 σ' k' (l ++ m).length 1 → K (.sl k' (bytesAV (l ++ m))) σ') : appsC 5 (.sl k (bytesAV l)) (.str m) σ K := by
  refine appsCT_by (by rw [bytesAV_len]; exact h) (by rw [bytesAV_len]; omega) fun k' σ' hg => ?_
  rw [bytesAV_app]
  rw [bytesAV_len] at hg
  exact hK k' σ' (by rw [List.length_append]; exact hg)
theorem writes_ok {σ0 σ : ASt} {b : Nat} {l : List UInt8} (h : BD σ0 b l σ) (m : List UInt8) (hl : l.length + m.length ≤ 1000000) :
    ACalls Tryz.prog 56 [.ptr b 0, .str m] σ fun v σ' => v = .tuple [.int .i64 m.length, .nili] ∧ ((l ++ m = [] ∧ ∃ k, GT (σ0.set b (some (.obj [.ptr b 0, .sl k []]))) σ' k 0 1) ∨ BD σ0 b (l ++ m) σ') := by
  refine a56 (by simp) ?_
  simp (disch := first | assumption | omega | (simp only [List.length_append, List.length_cons, List.length_nil]; omega)) only [go_sem, reduceCtorEq, ↓reduceIte]
  refine (cc_ok h).mono ?_
  rintro v σ1 ⟨rfl, k, hg⟩
  have hb := hg.at (ASt.set_same _ _ _)
  simp (disch := first | assumption | omega | (simp only [List.length_append, List.length_cons, List.length_nil]; omega)) only [go_sem, reduceCtorEq, Nat.reduceEqDiff, ↓reduceIte, hb]
  refine appsB_by hg (by omega) fun k' σ' hg' => ?_
  have hb' := hg'.at (ASt.set_same _ _ _)
  simp (disch := first | assumption | omega | (simp only [List.length_append, List.length_cons, List.length_nil]; omega)) only [go_sem, Nat.reduceEqDiff, Nat.reduceAdd, Nat.reduceLeDiff, ↓reduceIte, Bool.true_and, hb']
  refine retC_by (Drop.refl _) (.refl _) ⟨rfl, ?_⟩
  by_cases he : l ++ m = []
  · refine .inl ⟨he, k', ?_⟩
    have := hg'.obj (r' := .obj [.ptr b 0, .sl k' (bytesAV (l ++ m))])
    rw [he] at this
    rw [he]
    exact this
  · exact .inr (.inr ⟨he, k', hg'.obj⟩)
theorem writes1_ok {σ0 σ : ASt} {b : Nat} {l : List UInt8} (h : BD σ0 b l σ) (m : List UInt8) (hm : m ≠ []) (hl : l.length + m.length ≤ 1000000) :
    ACalls Tryz.prog 56 [.ptr b 0, .str m] σ fun v σ' => v = .tuple [.int .i64 m.length, .nili] ∧ BD σ0 b (l ++ m) σ' :=
  (writes_ok h m hl).mono fun _ _ ⟨h1, h2⟩ => ⟨h1, h2.resolve_left fun h => hm (List.append_eq_nil_iff.1 h.1).2⟩
theorem esigns_ok : Pure Tryz.prog 20 [] (.sl .shr (signL.map AV.str)) := by
  intro σ
  refine a20 (by simp) ?_
  simp (disch := first | assumption | omega | (simp only [List.length_append, List.length_cons, List.length_nil]; omega)) only [go_sem, ↓reduceIte, Bool.true_and]
  exact retC_by (by repeat' (first | exact Drop.refl _ | with_reducible refine Drop.off ?_ (by assumption))) (.sl _ _) ⟨rfl, rfl⟩
theorem tenames_ok : Pure Tryz.prog 51 [] (.sl .shr (errL.map AV.str)) := by
  intro σ
  refine a51 (by simp) ?_
  simp (disch := first | assumption | omega | (simp only [List.length_append, List.length_cons, List.length_nil]; omega)) only [go_sem, ↓reduceIte, Bool.true_and]
  exact retC_by (by repeat' (first | exact Drop.refl _ | with_reducible refine Drop.off ?_ (by assumption))) (.sl _ _) ⟨rfl, rfl⟩
theorem level_ok (op : Int) (h0 : -1000 ≤ op) (h1 : op ≤ 1000) : Pure Tryz.prog 64 [.int .i64 op] (.int .i64 (levelP op)) := by
  intro σ
  obtain ⟨q, hq⟩ : ∃ q, levelP op = q := ⟨_, rfl⟩
  rw [hq]
  unfold levelP at hq
  refine a64 (by simp) ?_
  by_cases h7 : op = 7
  · rw [if_pos (.inl h7)] at hq
    subst hq
    simp (disch := first | assumption | omega | (simp only [List.length_append, List.length_cons, List.length_nil]; omega)) only [go_sem, reduceCtorEq, Nat.reduceEqDiff, ↓reduceIte, h7]
    exact retC_by (by repeat' (first | exact Drop.refl _ | with_reducible refine Drop.off ?_ (by assumption))) (.refl _) ⟨rfl, rfl⟩
  by_cases h8 : op = 8
  · rw [if_pos (.inr h8)] at hq
    subst hq
    simp (disch := first | assumption | omega | (simp only [List.length_append, List.length_cons, List.length_nil]; omega)) only [go_sem, reduceCtorEq, Nat.reduceEqDiff, Int.reduceEq, ↓reduceIte, h8]
    exact retC_by (by repeat' (first | exact Drop.refl _ | with_reducible refine Drop.off ?_ (by assumption))) (.refl _) ⟨rfl, rfl⟩
  rw [if_neg (by omega)] at hq
  by_cases h9 : op = 9
  · rw [if_pos h9] at hq
    subst hq
    simp (disch := first | assumption | omega | (simp only [List.length_append, List.length_cons, List.length_nil]; omega)) only [go_sem, reduceCtorEq, Nat.reduceEqDiff, Int.reduceEq, ↓reduceIte, h9]
    exact retC_by (by repeat' (first | exact Drop.refl _ | with_reducible refine Drop.off ?_ (by assumption))) (.refl _) ⟨rfl, rfl⟩
  rw [if_neg h9] at hq
  by_cases ha : op < 10
  · rw [if_pos (.inl ha)] at hq
    subst hq
    simp (disch := first | assumption | omega | (simp only [List.length_append, List.length_cons, List.length_nil]; omega)) only [go_sem, reduceCtorEq, Nat.reduceEqDiff, ↓reduceIte, h7, h8, h9, ha]
    exact retC_by (by repeat' (first | exact Drop.refl _ | with_reducible refine Drop.off ?_ (by assumption))) (.refl _) ⟨rfl, rfl⟩
  by_cases hb : 22 ≤ op
  · rw [if_pos (.inr hb)] at hq
    subst hq
    simp (disch := first | assumption | omega | (simp only [List.length_append, List.length_cons, List.length_nil]; omega)) only [go_sem, reduceCtorEq, Nat.reduceEqDiff, ↓reduceIte, h7, h8, h9, ha, hb]
    exact retC_by (by repeat' (first | exact Drop.refl _ | with_reducible refine Drop.off ?_ (by assumption))) (.refl _) ⟨rfl, rfl⟩
  rw [if_neg (by omega)] at hq
  have hc : op = 10 ∨ op = 11 ∨ op = 12 ∨ op = 13 ∨ op = 14 ∨ op = 15 ∨ op = 16 ∨ op = 17 ∨ op = 18 ∨ op = 19 ∨ op = 20 ∨ op = 21 := by omega
  rcases hc with rfl | rfl | rfl | rfl | rfl | rfl | rfl | rfl | rfl | rfl | rfl | rfl
  all_goals
    simp at hq
    subst hq
    simp (disch := first | assumption | omega | (simp only [List.length_append, List.length_cons, List.length_nil]; omega)) only [go_sem, reduceCtorEq, Nat.reduceEqDiff, Int.reduceLT, Int.reduceLE, Int.reduceEq, ↓reduceIte, Int.reduceSub, Int.reduceToNat, Bool.true_and]
    exact retC_by (by repeat' (first | exact Drop.refl _ | with_reducible refine Drop.off ?_ (by assumption))) (.refl _) ⟨rfl, rfl⟩
theorem truth_ok (b : Bool) : Pure Tryz.prog 59 [.bool b] (.str (truthP b)) := by
  intro σ
  refine a59 (by simp) ?_
  cases b <;> simp (disch := first | assumption | omega | (simp only [List.length_append, List.length_cons, List.length_nil]; omega)) only [go_sem, reduceCtorEq, ↓reduceIte]
  all_goals exact retC_by (by repeat' (first | exact Drop.refl _ | with_reducible refine Drop.off ?_ (by assumption))) (.refl _) ⟨rfl, rfl⟩
end Go.A
namespace Go.A
open Go.Proofs
/-! 13: tabular/expr.Size -/
def c13_0 : ACode := .ops [
 ⟨some 1, none, .e (.box (.t 0)), []⟩,
 ⟨some 2, none, .q (.mv (.v (.int .i64 0))), []⟩]
def c13_1 : ACode := .ops [
 ⟨some 3, none, .q (.mv (.v (.int .i64 1))), []⟩]
def c13_2 : ACode := .ops [
 ⟨some 6, none, .q (.fa 11 (.t 1)), []⟩,
 ⟨some 7, none, .q (.ld none (.t 6)), []⟩,
 ⟨some 8, none, .q (.len (.t 7)), []⟩,
 ⟨some 9, none, .q (.mv (.v (.int .i64 0))), []⟩]
def c13_3 : ACode := .ops [
 ⟨some 10, none, .q (.bin .lss (.t 9) (.t 8)), []⟩]
def c13_4 : ACode := .cond (.t 10) .skip (.exit 0)
def c13_5 : ACode := .ops [
 ⟨some 11, none, .q (.ia 12 (.t 7) (.t 9)), []⟩,
 ⟨some 12, none, .q (.ld (some 12) (.t 11)), []⟩,
 ⟨some 5, none, .e (.alloc [(.int .i64 0), (.int .i64 0), (.str []), (.int .i64 0), (.int .i64 0), (.bool false), (.bool false), (.int .i64 0), (.int .i64 0), (.bool false), (.bool false), (.sl .full [])]), []⟩,
 ⟨none, none, .e (.store 12 (.t 5) (.t 12)), []⟩]
def c13_6 : ACode := .ops [
 ⟨some 13, none, .q (.mv (.t 3)), []⟩,
 ⟨some 14, none, .q (.ld (some 12) (.t 5)), []⟩,
 ⟨some 15, none, .e (.call 13 [(.t 14)]), []⟩,
 ⟨some 16, none, .q (.bin .add (.t 13) (.t 15)), []⟩,
 ⟨some 3, none, .q (.mv (.t 16)), []⟩]
def c13_7 : ACode := .seq c13_5 c13_6
def c13_8 : ACode := .block 1 c13_7
def c13_9 : ACode := .ops [
 ⟨some 17, none, .q (.bin .add (.t 9) (.v (.int .i64 1))), []⟩,
 ⟨some 9, none, .q (.mv (.t 17)), []⟩]
def c13_10 : ACode := .seq c13_8 c13_9
def c13_11 : ACode := .seq c13_4 c13_10
def c13_12 : ACode := .seq c13_3 c13_11
def c13_13 : ACode := .loop c13_12
def c13_14 : ACode := .block 0 c13_13
def c13_15 : ACode := .seq c13_2 c13_14
def c13_16 : ACode := .ops [
 ⟨some 18, none, .q (.mv (.t 3)), []⟩,
 ⟨some 2, none, .q (.mv (.t 18)), []⟩]
def c13_17 : ACode := .seq c13_16 .ret
def c13_18 : ACode := .seq c13_15 c13_17
def c13_19 : ACode := .seq c13_1 c13_18
def c13_20 : ACode := .seq c13_0 c13_19
@[go_sem] theorem c13_0_wp : type_of% (wp_of c13_0.eq_1) := wp_of c13_0.eq_1
@[go_sem] theorem c13_1_wp : type_of% (wp_of c13_1.eq_1) := wp_of c13_1.eq_1
@[go_sem] theorem c13_2_wp : type_of% (wp_of c13_2.eq_1) := wp_of c13_2.eq_1
@[go_sem] theorem c13_3_wp : type_of% (wp_of c13_3.eq_1) := wp_of c13_3.eq_1
@[go_sem] theorem c13_4_wp : type_of% (wp_of c13_4.eq_1) := wp_of c13_4.eq_1
@[go_sem] theorem c13_5_wp : type_of% (wp_of c13_5.eq_1) := wp_of c13_5.eq_1
@[go_sem] theorem c13_6_wp : type_of% (wp_of c13_6.eq_1) := wp_of c13_6.eq_1
@[go_sem] theorem c13_7_wp : type_of% (wp_of c13_7.eq_1) := wp_of c13_7.eq_1
@[go_sem] theorem c13_8_wp : type_of% (wp_of c13_8.eq_1) := wp_of c13_8.eq_1
@[go_sem] theorem c13_9_wp : type_of% (wp_of c13_9.eq_1) := wp_of c13_9.eq_1
@[go_sem] theorem c13_10_wp : type_of% (wp_of c13_10.eq_1) := wp_of c13_10.eq_1
@[go_sem] theorem c13_11_wp : type_of% (wp_of c13_11.eq_1) := wp_of c13_11.eq_1
@[go_sem] theorem c13_12_wp : type_of% (wp_of c13_12.eq_1) := wp_of c13_12.eq_1
@[go_sem] theorem c13_13_wp : type_of% (wp_of c13_13.eq_1) := wp_of c13_13.eq_1
@[go_sem] theorem c13_14_wp : type_of% (wp_of c13_14.eq_1) := wp_of c13_14.eq_1
@[go_sem] theorem c13_15_wp : type_of% (wp_of c13_15.eq_1) := wp_of c13_15.eq_1
@[go_sem] theorem c13_16_wp : type_of% (wp_of c13_16.eq_1) := wp_of c13_16.eq_1
@[go_sem] theorem c13_17_wp : type_of% (wp_of c13_17.eq_1) := wp_of c13_17.eq_1
@[go_sem] theorem c13_18_wp : type_of% (wp_of c13_18.eq_1) := wp_of c13_18.eq_1
@[go_sem] theorem c13_19_wp : type_of% (wp_of c13_19.eq_1) := wp_of c13_19.eq_1
@[go_sem] theorem c13_20_wp : type_of% (wp_of c13_20.eq_1) := wp_of c13_20.eq_1
def c13 : AFn := ⟨19, [.t 2], c13_20⟩
set_option maxRecDepth 100000 in
theorem c13_ok : compF Tryz.prog Tryz.f13 = some c13 := by kernel_rfl
theorem a13 {args : List AV} {σ : ASt} {R : AV → ASt → Prop} (hl : args.length ≤ 19) (h : c13_20.wp Tryz.prog (RetQ [.t 2] R) (init args) σ) : ACalls Tryz.prog 13 args σ R := acalls_of Tryz.func13 c13_ok hl h
/-! 15: tabular/expr.Depth -/
def c15_0 : ACode := .ops [
 ⟨some 1, none, .e (.box (.t 0)), []⟩,
 ⟨some 2, none, .q (.mv (.v (.int .i64 0))), []⟩]
def c15_1 : ACode := .ops [
 ⟨some 3, none, .q (.mv (.v (.int .i64 0))), []⟩]
def c15_2 : ACode := .ops [
 ⟨some 6, none, .q (.fa 11 (.t 1)), []⟩,
 ⟨some 7, none, .q (.ld none (.t 6)), []⟩,
 ⟨some 8, none, .q (.len (.t 7)), []⟩,
 ⟨some 9, none, .q (.mv (.v (.int .i64 0))), []⟩]
def c15_3 : ACode := .ops [
 ⟨some 10, none, .q (.bin .lss (.t 9) (.t 8)), []⟩]
def c15_4 : ACode := .cond (.t 10) .skip (.exit 0)
def c15_5 : ACode := .ops [
 ⟨some 11, none, .q (.ia 12 (.t 7) (.t 9)), []⟩,
 ⟨some 12, none, .q (.ld (some 12) (.t 11)), []⟩,
 ⟨some 5, none, .e (.alloc [(.int .i64 0), (.int .i64 0), (.str []), (.int .i64 0), (.int .i64 0), (.bool false), (.bool false), (.int .i64 0), (.int .i64 0), (.bool false), (.bool false), (.sl .full [])]), []⟩,
 ⟨none, none, .e (.store 12 (.t 5) (.t 12)), []⟩]
def c15_6 : ACode := .ops [
 ⟨some 13, none, .q (.mv (.t 3)), []⟩,
 ⟨some 14, none, .q (.ld (some 12) (.t 5)), []⟩,
 ⟨some 15, none, .e (.call 15 [(.t 14)]), []⟩,
 ⟨some 16, none, .q (.mnx true (.t 13) (.t 15)), []⟩,
 ⟨some 3, none, .q (.mv (.t 16)), []⟩]
def c15_7 : ACode := .seq c15_5 c15_6
def c15_8 : ACode := .block 1 c15_7
def c15_9 : ACode := .ops [
 ⟨some 17, none, .q (.bin .add (.t 9) (.v (.int .i64 1))), []⟩,
 ⟨some 9, none, .q (.mv (.t 17)), []⟩]
def c15_10 : ACode := .seq c15_8 c15_9
def c15_11 : ACode := .seq c15_4 c15_10
def c15_12 : ACode := .seq c15_3 c15_11
def c15_13 : ACode := .loop c15_12
def c15_14 : ACode := .block 0 c15_13
def c15_15 : ACode := .seq c15_2 c15_14
def c15_16 : ACode := .ops [
 ⟨some 18, none, .q (.mv (.t 3)), []⟩,
 ⟨some 19, none, .q (.bin .add (.t 18) (.v (.int .i64 1))), []⟩,
 ⟨some 2, none, .q (.mv (.t 19)), []⟩]
def c15_17 : ACode := .seq c15_16 .ret
def c15_18 : ACode := .seq c15_15 c15_17
def c15_19 : ACode := .seq c15_1 c15_18
def c15_20 : ACode := .seq c15_0 c15_19
@[go_sem] theorem c15_0_wp : type_of% (wp_of c15_0.eq_1) := wp_of c15_0.eq_1
@[go_sem] theorem c15_1_wp : type_of% (wp_of c15_1.eq_1) := wp_of c15_1.eq_1
@[go_sem] theorem c15_2_wp : type_of% (wp_of c15_2.eq_1) := wp_of c15_2.eq_1
@[go_sem] theorem c15_3_wp : type_of% (wp_of c15_3.eq_1) := wp_of c15_3.eq_1
@[go_sem] theorem c15_4_wp : type_of% (wp_of c15_4.eq_1) := wp_of c15_4.eq_1
@[go_sem] theorem c15_5_wp : type_of% (wp_of c15_5.eq_1) := wp_of c15_5.eq_1
@[go_sem] theorem c15_6_wp : type_of% (wp_of c15_6.eq_1) := wp_of c15_6.eq_1
@[go_sem] theorem c15_7_wp : type_of% (wp_of c15_7.eq_1) := wp_of c15_7.eq_1
@[go_sem] theorem c15_8_wp : type_of% (wp_of c15_8.eq_1) := wp_of c15_8.eq_1
@[go_sem] theorem c15_9_wp : type_of% (wp_of c15_9.eq_1) := wp_of c15_9.eq_1
@[go_sem] theorem c15_10_wp : type_of% (wp_of c15_10.eq_1) := wp_of c15_10.eq_1
@[go_sem] theorem c15_11_wp : type_of% (wp_of c15_11.eq_1) := wp_of c15_11.eq_1
@[go_sem] theorem c15_12_wp : type_of% (wp_of c15_12.eq_1) := wp_of c15_12.eq_1
@[go_sem] theorem c15_13_wp : type_of% (wp_of c15_13.eq_1) := wp_of c15_13.eq_1
@[go_sem] theorem c15_14_wp : type_of% (wp_of c15_14.eq_1) := wp_of c15_14.eq_1
@[go_sem] theorem c15_15_wp : type_of% (wp_of c15_15.eq_1) := wp_of c15_15.eq_1
@[go_sem] theorem c15_16_wp : type_of% (wp_of c15_16.eq_1) := wp_of c15_16.eq_1
@[go_sem] theorem c15_17_wp : type_of% (wp_of c15_17.eq_1) := wp_of c15_17.eq_1
@[go_sem] theorem c15_18_wp : type_of% (wp_of c15_18.eq_1) := wp_of c15_18.eq_1
@[go_sem] theorem c15_19_wp : type_of% (wp_of c15_19.eq_1) := wp_of c15_19.eq_1
@[go_sem] theorem c15_20_wp : type_of% (wp_of c15_20.eq_1) := wp_of c15_20.eq_1
def c15 : AFn := ⟨20, [.t 2], c15_20⟩
set_option maxRecDepth 100000 in
theorem c15_ok : compF Tryz.prog Tryz.f15 = some c15 := by kernel_rfl
theorem a15 {args : List AV} {σ : ASt} {R : AV → ASt → Prop} (hl : args.length ≤ 20) (h : c15_20.wp Tryz.prog (RetQ [.t 2] R) (init args) σ) : ACalls Tryz.prog 15 args σ R := acalls_of Tryz.func15 c15_ok hl h
/-! 25: tabular/expr.Failure -/
def c25_0 : ACode := .ops [
 ⟨some 1, none, .e (.box (.t 0)), []⟩,
 ⟨some 2, none, .q (.mv (.v (.str []))), []⟩]
def c25_1 : ACode := .ops [
 ⟨some 4, none, .q (.fa 1 (.t 1)), []⟩,
 ⟨some 5, none, .q (.ld none (.t 4)), []⟩,
 ⟨some 6, none, .e (.call 50 [(.t 5)]), []⟩,
 ⟨some 3, none, .q (.mv (.t 6)), []⟩]
def c25_2 : ACode := .ops [
 ⟨some 7, none, .q (.fa 0 (.t 1)), []⟩,
 ⟨some 8, none, .q (.ld none (.t 7)), []⟩,
 ⟨some 9, none, .q (.bin .neq (.t 8) (.v (.int .i64 4))), []⟩,
 ⟨some 10, none, .q (.mv (.t 9)), []⟩,
 ⟨some 11, some (10, false), .q (.mv (.t 3)), []⟩,
 ⟨some 12, some (10, false), .q (.bin .lss (.t 11) (.v (.int .i64 1))), []⟩,
 ⟨some 13, none, .q (.pick (.t 10) (.v (.bool true)) (.t 12)), []⟩,
 ⟨some 14, none, .q (.mv (.t 13)), []⟩,
 ⟨some 15, some (14, false), .q (.mv (.t 3)), []⟩,
 ⟨some 16, some (14, false), .e (.call 51 []), []⟩,
 ⟨some 17, some (14, false), .q (.len (.t 16)), []⟩,
 ⟨some 18, some (14, false), .q (.bin .gtr (.t 15) (.t 17)), []⟩,
 ⟨some 19, none, .q (.pick (.t 14) (.v (.bool true)) (.t 18)), []⟩]
def c25_3 : ACode := .ops [
 ⟨some 2, none, .q (.mv (.v (.str []))), []⟩]
def c25_4 : ACode := .seq c25_3 .ret
def c25_5 : ACode := .cond (.t 19) c25_4 .skip
def c25_6 : ACode := .seq c25_2 c25_5
def c25_7 : ACode := .ops [
 ⟨some 20, none, .e (.call 51 []), []⟩,
 ⟨some 21, none, .q (.mv (.t 3)), []⟩,
 ⟨some 22, none, .q (.bin .sub (.t 21) (.v (.int .i64 1))), []⟩,
 ⟨some 23, none, .q (.ia 1 (.t 20) (.t 22)), []⟩,
 ⟨some 24, none, .q (.ld none (.t 23)), []⟩,
 ⟨some 2, none, .q (.mv (.t 24)), []⟩]
def c25_8 : ACode := .seq c25_7 .ret
def c25_9 : ACode := .seq c25_6 c25_8
def c25_10 : ACode := .seq c25_1 c25_9
def c25_11 : ACode := .seq c25_0 c25_10
@[go_sem] theorem c25_0_wp : type_of% (wp_of c25_0.eq_1) := wp_of c25_0.eq_1
@[go_sem] theorem c25_1_wp : type_of% (wp_of c25_1.eq_1) := wp_of c25_1.eq_1
@[go_sem] theorem c25_2_wp : type_of% (wp_of c25_2.eq_1) := wp_of c25_2.eq_1
@[go_sem] theorem c25_3_wp : type_of% (wp_of c25_3.eq_1) := wp_of c25_3.eq_1
@[go_sem] theorem c25_4_wp : type_of% (wp_of c25_4.eq_1) := wp_of c25_4.eq_1
@[go_sem] theorem c25_5_wp : type_of% (wp_of c25_5.eq_1) := wp_of c25_5.eq_1
@[go_sem] theorem c25_6_wp : type_of% (wp_of c25_6.eq_1) := wp_of c25_6.eq_1
@[go_sem] theorem c25_7_wp : type_of% (wp_of c25_7.eq_1) := wp_of c25_7.eq_1
@[go_sem] theorem c25_8_wp : type_of% (wp_of c25_8.eq_1) := wp_of c25_8.eq_1
@[go_sem] theorem c25_9_wp : type_of% (wp_of c25_9.eq_1) := wp_of c25_9.eq_1
@[go_sem] theorem c25_10_wp : type_of% (wp_of c25_10.eq_1) := wp_of c25_10.eq_1
@[go_sem] theorem c25_11_wp : type_of% (wp_of c25_11.eq_1) := wp_of c25_11.eq_1
def c25 : AFn := ⟨25, [.t 2], c25_11⟩
set_option maxRecDepth 100000 in
theorem c25_ok : compF Tryz.prog Tryz.f25 = some c25 := by kernel_rfl
theorem a25 {args : List AV} {σ : ASt} {R : AV → ASt → Prop} (hl : args.length ≤ 25) (h : c25_11.wp Tryz.prog (RetQ [.t 2] R) (init args) σ) : ACalls Tryz.prog 25 args σ R := acalls_of Tryz.func25 c25_ok hl h
end Go.A
namespace Go.A
open Go.Proofs Go.Lib
set_option maxRecDepth 100000
set_option linter.unusedSimpArgs false
set_option linter.unusedVariables false
theorem failure_ok (op n : Int) (s : List UInt8) (a b : Ref) (kids : List Nd) (hn : n.natAbs ≤ 999999999999999999) : Pure Tryz.prog 25 [(Nd.mk op n s a b kids).av] (.str (failT op n)) := by
  intro σ
  have hW := whole_ok hn
  have hE := tenames_ok
  obtain ⟨q, hq⟩ : ∃ q, failT op n = q := ⟨_, rfl⟩
  rw [hq]
  unfold failT at hq
  rw [Nd.av_cs]
  generalize n.tdiv 10000 = i at *
  refine a25 (by simp) ?_
  simp (disch := first | assumption | omega | (simp only [List.length_append, List.length_cons, List.length_nil]; omega)) only [go_sem]
  refine boxC_by rfl fun c hc => ?_
  simp (disch := first | assumption | omega | (simp only [List.length_append, List.length_cons, List.length_nil]; omega)) only [go_sem, Nat.reduceEqDiff, ↓reduceIte]
  refine hW.use ?_
  by_cases h4 : op = 4
  · by_cases h2 : i < 1
    · rw [if_pos (.inr (.inl h2))] at hq
      subst hq
      simp (disch := first | assumption | omega | (simp only [List.length_append, List.length_cons, List.length_nil]; omega)) only [go_sem, Nat.reduceEqDiff, ↓reduceIte, h4, h2]
      exact retC_by (by repeat' (first | exact Drop.refl _ | with_reducible refine Drop.off ?_ (by assumption))) (.refl _) ⟨rfl, rfl⟩
    · by_cases h3 : 7 < i
      · rw [if_pos (.inr (.inr h3))] at hq
        subst hq
        simp (disch := first | assumption | omega | (simp only [List.length_append, List.length_cons, List.length_nil]; omega)) only [go_sem, Nat.reduceEqDiff, ↓reduceIte, h4, h2]
        refine hE.use ?_
        unfold errL
        simp (disch := first | assumption | omega | (simp only [List.length_append, List.length_cons, List.length_nil]; omega)) only [go_sem, Nat.reduceEqDiff, Nat.reduceAdd, ↓reduceIte, h3]
        exact retC_by (by repeat' (first | exact Drop.refl _ | with_reducible refine Drop.off ?_ (by assumption))) (.refl _) ⟨rfl, rfl⟩
      · rw [if_neg (by omega)] at hq
        have hc : i = 1 ∨ i = 2 ∨ i = 3 ∨ i = 4 ∨ i = 5 ∨ i = 6 ∨ i = 7 := by omega
        subst hq
        rcases hc with rfl | rfl | rfl | rfl | rfl | rfl | rfl
        all_goals
          simp (disch := first | assumption | omega | (simp only [List.length_append, List.length_cons, List.length_nil]; omega)) only [go_sem, Nat.reduceEqDiff, Int.reduceLT, ↓reduceIte, Int.reduceSub, Int.reduceToNat, h4]
          refine hE.use ?_
          unfold errL
          simp (disch := first | assumption | omega | (simp only [List.length_append, List.length_cons, List.length_nil]; omega)) only [go_sem, Nat.reduceEqDiff, Nat.reduceAdd, Int.reduceLT, ↓reduceIte]
          refine hE.use ?_
          unfold errL
          simp (disch := first | assumption | omega | (simp only [List.length_append, List.length_cons, List.length_nil]; omega)) only [go_sem, Nat.reduceEqDiff, ↓reduceIte, Int.reduceSub, Int.reduceToNat]
          exact retC_by (by repeat' (first | exact Drop.refl _ | with_reducible refine Drop.off ?_ (by assumption))) (.refl _) ⟨rfl, rfl⟩
  · rw [if_pos (.inl h4)] at hq
    subst hq
    simp (disch := first | assumption | omega | (simp only [List.length_append, List.length_cons, List.length_nil]; omega)) only [go_sem, Nat.reduceEqDiff, ↓reduceIte, h4]
    exact retC_by (by repeat' (first | exact Drop.refl _ | with_reducible refine Drop.off ?_ (by assumption))) (.refl _) ⟨rfl, rfl⟩
theorem sizes_take {x : Nd} : ∀ {l : List Nd} {i : Nat}, l[i]? = some x → Nd.sizes (l.take (i + 1)) = Nd.sizes (l.take i) + x.size
  | [], i, h => by simp at h
  | y :: l, 0, h => by simp at h; subst h; simp [Nd.sizes]
  | y :: l, i + 1, h => by
    simp only [List.getElem?_cons_succ] at h
    rw [List.take_succ_cons, List.take_succ_cons, Nd.sizes, Nd.sizes, sizes_take h]
    omega
theorem sizes_le : ∀ (l : List Nd) (i : Nat), Nd.sizes (l.take i) ≤ Nd.sizes l
  | [], i => by simp [Nd.sizes]
  | y :: l, 0 => by simp [Nd.sizes]
  | y :: l, i + 1 => by rw [List.take_succ_cons, Nd.sizes, Nd.sizes]; have := sizes_le l i; omega
theorem sizes_len : ∀ l : List Nd, l.length ≤ Nd.sizes l
  | [] => by simp
  | x :: l => by have := x.size_pos; have := sizes_len l; rw [Nd.sizes, List.length_cons]; omega
theorem depths_take {x : Nd} : ∀ {l : List Nd} {i : Nat}, l[i]? = some x → Nd.depths (l.take (i + 1)) = max (Nd.depths (l.take i)) x.depth
  | [], i, h => by simp at h
  | y :: l, 0, h => by simp at h; subst h; simp [Nd.depths]
  | y :: l, i + 1, h => by
    simp only [List.getElem?_cons_succ] at h
    rw [List.take_succ_cons, List.take_succ_cons, Nd.depths, Nd.depths, depths_take h]
    omega
theorem depths_le : ∀ (l : List Nd), Nd.depths l ≤ Nd.sizes l
  | [] => by simp [Nd.depths]
  | y :: l => by rw [Nd.depths, Nd.sizes]; have := depths_le l; have := y.depth_le_size; omega
theorem depths_take_le : ∀ (l : List Nd) (i : Nat), Nd.depths (l.take i) ≤ Nd.depths l
  | [], i => by simp [Nd.depths]
  | y :: l, 0 => by simp [Nd.depths]
  | y :: l, i + 1 => by rw [List.take_succ_cons, Nd.depths, Nd.depths]; have := depths_take_le l i; omega
theorem size_le_ok : ∀ (k : Nat) (n : Nd), n.size ≤ k → n.size ≤ 1000000000 → Pure Tryz.prog 13 [n.av] (.int .i64 n.size)
  | 0, n, hk, _ => by have := n.size_pos; omega
  | k + 1, n, hk, hbig => by
    intro σ
    have ih := size_le_ok k
    obtain ⟨op, m, s, a, b, kids⟩ := n
    rw [Nd.size] at hk hbig ⊢
    rw [Nd.av_cs]
    have hlen := sizes_len kids
    refine a13 (by simp) ?_
    simp (disch := first | assumption | omega | (simp only [List.length_append, List.length_cons, List.length_nil]; omega)) only [go_sem]
    refine boxC_by rfl fun c hc => ?_
    simp (disch := first | assumption | omega | (simp only [List.length_append, List.length_cons, List.length_nil]; omega)) only [go_sem, Nat.reduceEqDiff, ↓reduceIte]
    refine wp_loop_by (fun (i : Nat) a1 s2 => i ≤ kids.length ∧ (a1 3 = .int .i64 (1 + (Nd.sizes (kids.take i) : Nat)) ∧ a1 7 = .sl .shr (kids.map Nd.av) ∧ a1 8 = .int .i64 kids.length ∧ a1 9 = .int .i64 i) ∧ s2 = σ) (fun i => kids.length - i) 0 (Dr.drop (Drop.set hc) ⟨Nat.zero_le _, ?_, rfl⟩) ?_
    · simp only [List.take_zero, Nd.sizes]
      simp (disch := first | assumption | omega | (simp only [List.length_append, List.length_cons, List.length_nil]; omega)) only [go_sem, Nat.reduceEqDiff, ↓reduceIte, Int.reduceAdd]
    rintro i a1 s2 ⟨hi, hf, rfl⟩
    have hle := sizes_le kids i
    by_cases hlt : i < kids.length
    · have hlt' : (i : Int) < kids.length := by omega
      have hx : kids[i]? = some (kids[i]'hlt) := List.getElem?_eq_getElem hlt
      obtain ⟨x, hxe⟩ : ∃ x, kids[i]'hlt = x := ⟨_, rfl⟩
      rw [hxe] at hx
      have hmx := Nd.get hx
      have hst := sizes_take hx
      have hle2 := sizes_le kids (i + 1)
      have hxs := ih x (by omega) (by omega)
      obtain ⟨xo, xm, xs, xa, xb, xk⟩ := x
      rw [Nd.av_cs] at hmx hxs
      generalize (Nd.mk xo xm xs xa xb xk).size = z at *
      have e : (1 + ((Nd.sizes (kids.take i) : Nat) : Int)) + (z : Int) = 1 + ((Nd.sizes (kids.take (i + 1)) : Nat) : Int) := by omega
      generalize Nd.sizes (kids.take i) = u at *
      obtain ⟨v, hv⟩ : ∃ v, Nd.sizes (kids.take (i + 1)) = v := ⟨_, rfl⟩
      rw [hv] at e
      generalize kids.map Nd.av = L at *
      simp (disch := first | assumption | omega | (simp only [List.length_append, List.length_cons, List.length_nil]; omega)) only [go_sem, Nat.reduceEqDiff, Nat.reduceLeDiff, ↓reduceIte, hf, hlt', hmx]
      refine allocC_by fun d hd => ?_
      simp (disch := first | assumption | omega | (simp only [List.length_append, List.length_cons, List.length_nil]; omega)) only [go_sem, Nat.reduceEqDiff, Nat.reduceAdd, Nat.reduceLeDiff, ↓reduceIte, hf, ASt.set_set]
      refine hxs.use ?_
      simp (disch := first | assumption | omega | (simp only [List.length_append, List.length_cons, List.length_nil]; omega)) only [go_sem, Nat.reduceEqDiff, ↓reduceIte, hf, e]
      refine ⟨i + 1, by dsimp only; omega, Dr.drop (Drop.set hd) ⟨by omega, ?_, rfl⟩⟩
      rw [hv]
      simp (disch := first | assumption | omega | (simp only [List.length_append, List.length_cons, List.length_nil]; omega)) only [go_sem, Nat.reduceEqDiff, ↓reduceIte, hf]
    · have hlt' : ¬ (i : Int) < kids.length := by omega
      rw [List.take_of_length_le (by omega)] at hf
      generalize Nd.sizes kids = u at *
      simp (disch := first | assumption | omega | (simp only [List.length_append, List.length_cons, List.length_nil]; omega)) only [go_sem, Nat.reduceEqDiff, ↓reduceIte, hf, hlt']
      exact retC_by (by repeat' (first | exact Drop.refl _ | with_reducible refine Drop.off ?_ (by assumption))) (.refl _) ⟨rfl, rfl⟩
theorem nsize_ok (n : Nd) (h : n.size ≤ 1000000000) : Pure Tryz.prog 13 [n.av] (.int .i64 n.size) := size_le_ok n.size n (Nat.le_refl _) h
theorem depth_le_ok : ∀ (k : Nat) (n : Nd), n.size ≤ k → n.size ≤ 1000000000 → Pure Tryz.prog 15 [n.av] (.int .i64 n.depth)
  | 0, n, hk, _ => by have := n.size_pos; omega
  | k + 1, n, hk, hbig => by
    intro σ
    have ih := depth_le_ok k
    have hdd := n.depth_le_size
    obtain ⟨op, m, s, a, b, kids⟩ := n
    rw [Nd.size] at hk hbig hdd
    rw [Nd.depth] at hdd ⊢
    rw [Nd.av_cs]
    have hlen := sizes_len kids
    have hdl := depths_le kids
    refine a15 (by simp) ?_
    simp (disch := first | assumption | omega | (simp only [List.length_append, List.length_cons, List.length_nil]; omega)) only [go_sem]
    refine boxC_by rfl fun c hc => ?_
    simp (disch := first | assumption | omega | (simp only [List.length_append, List.length_cons, List.length_nil]; omega)) only [go_sem, Nat.reduceEqDiff, ↓reduceIte]
    refine wp_loop_by (fun (i : Nat) a1 s2 => i ≤ kids.length ∧ (a1 3 = .int .i64 (Nd.depths (kids.take i) : Nat) ∧ a1 7 = .sl .shr (kids.map Nd.av) ∧ a1 8 = .int .i64 kids.length ∧ a1 9 = .int .i64 i) ∧ s2 = σ) (fun i => kids.length - i) 0 (Dr.drop (Drop.set hc) ⟨Nat.zero_le _, ?_, rfl⟩) ?_
    · simp only [List.take_zero, Nd.depths]
      simp (disch := first | assumption | omega | (simp only [List.length_append, List.length_cons, List.length_nil]; omega)) only [go_sem, Nat.reduceEqDiff, ↓reduceIte]
    rintro i a1 s2 ⟨hi, hf, rfl⟩
    have hle := depths_take_le kids i
    by_cases hlt : i < kids.length
    · have hlt' : (i : Int) < kids.length := by omega
      have hx : kids[i]? = some (kids[i]'hlt) := List.getElem?_eq_getElem hlt
      obtain ⟨x, hxe⟩ : ∃ x, kids[i]'hlt = x := ⟨_, rfl⟩
      rw [hxe] at hx
      have hmx := Nd.get hx
      have hst := depths_take hx
      have hsz := Nd.size_kid (List.mem_of_getElem? hx)
      have hxs := ih x (by omega) (by omega)
      obtain ⟨xo, xm, xs, xa, xb, xk⟩ := x
      rw [Nd.av_cs] at hmx hxs
      generalize (Nd.mk xo xm xs xa xb xk).depth = z at *
      have e : max ((Nd.depths (kids.take i) : Nat) : Int) (z : Int) = ((Nd.depths (kids.take (i + 1)) : Nat) : Int) := by omega
      generalize Nd.depths (kids.take i) = u at *
      obtain ⟨v, hv⟩ : ∃ v, Nd.depths (kids.take (i + 1)) = v := ⟨_, rfl⟩
      rw [hv] at e
      generalize kids.map Nd.av = L at *
      simp (disch := first | assumption | omega | (simp only [List.length_append, List.length_cons, List.length_nil]; omega)) only [go_sem, Nat.reduceEqDiff, Nat.reduceLeDiff, ↓reduceIte, hf, hlt', hmx]
      refine allocC_by fun d hd => ?_
      simp (disch := first | assumption | omega | (simp only [List.length_append, List.length_cons, List.length_nil]; omega)) only [go_sem, Nat.reduceEqDiff, Nat.reduceAdd, Nat.reduceLeDiff, ↓reduceIte, hf, ASt.set_set]
      refine hxs.use ?_
      simp (disch := first | assumption | omega | (simp only [List.length_append, List.length_cons, List.length_nil]; omega)) only [go_sem, Nat.reduceEqDiff, ↓reduceIte, hf, e]
      refine ⟨i + 1, by dsimp only; omega, Dr.drop (Drop.set hd) ⟨by omega, ?_, rfl⟩⟩
      rw [hv]
      simp (disch := first | assumption | omega | (simp only [List.length_append, List.length_cons, List.length_nil]; omega)) only [go_sem, Nat.reduceEqDiff, ↓reduceIte, hf]
    · have hlt' : ¬ (i : Int) < kids.length := by omega
      rw [List.take_of_length_le (by omega)] at hf
      generalize Nd.depths kids = u at *
      simp (disch := first | assumption | omega | (simp only [List.length_append, List.length_cons, List.length_nil]; omega)) only [go_sem, Nat.reduceEqDiff, ↓reduceIte, hf, hlt']
      exact retC_by (by repeat' (first | exact Drop.refl _ | with_reducible refine Drop.off ?_ (by assumption))) (.refl _) ⟨rfl, rfl⟩
theorem ndepth_ok (n : Nd) (h : n.size ≤ 1000000000) : Pure Tryz.prog 15 [n.av] (.int .i64 n.depth) := depth_le_ok n.size n (Nat.le_refl _) h
end Go.A
namespace Go.A
open Go.Proofs
/-! 32: tabular/expr.spell -/
def c32_0 : ACode := .ops [
 ⟨some 3, none, .e (.box (.t 1)), []⟩]
def c32_1 : ACode := .ops [
 ⟨some 7, none, .q (.fa 0 (.t 3)), []⟩,
 ⟨some 8, none, .q (.ld none (.t 7)), []⟩]
def c32_2 : ACode := .ops [
 ⟨some 36, none, .q (.bin .eql (.t 8) (.v (.int .i64 1))), []⟩,
 ⟨some 35, none, .q (.mv (.t 36)), []⟩]
def c32_3 : ACode := .ops [
 ⟨some 37, none, .q (.mv (.t 0)), []⟩,
 ⟨some 38, none, .q (.fa 1 (.t 3)), []⟩,
 ⟨some 39, none, .q (.ld none (.t 38)), []⟩,
 ⟨some 40, none, .e (.call 57 [(.t 39)]), []⟩,
 ⟨some 41, none, .e (.call 56 [(.t 37), (.t 40)]), []⟩]
def c32_4 : ACode := .ops [
 ⟨some 43, none, .q (.bin .eql (.t 8) (.v (.int .i64 2))), []⟩,
 ⟨some 42, none, .q (.mv (.t 43)), []⟩]
def c32_5 : ACode := .ops [
 ⟨some 44, none, .q (.mv (.t 0)), []⟩,
 ⟨some 45, none, .q (.fa 2 (.t 3)), []⟩,
 ⟨some 46, none, .q (.ld none (.t 45)), []⟩,
 ⟨some 47, none, .e (.call 58 [(.t 46)]), []⟩,
 ⟨some 48, none, .e (.call 56 [(.t 44), (.t 47)]), []⟩]
def c32_6 : ACode := .ops [
 ⟨some 50, none, .q (.bin .eql (.t 8) (.v (.int .i64 3))), []⟩,
 ⟨some 49, none, .q (.mv (.t 50)), []⟩]
def c32_7 : ACode := .ops [
 ⟨some 51, none, .q (.mv (.t 0)), []⟩,
 ⟨some 52, none, .q (.fa 1 (.t 3)), []⟩,
 ⟨some 53, none, .q (.ld none (.t 52)), []⟩,
 ⟨some 54, none, .q (.bin .neq (.t 53) (.v (.int .i64 0))), []⟩,
 ⟨some 55, none, .e (.call 59 [(.t 54)]), []⟩,
 ⟨some 56, none, .e (.call 56 [(.t 51), (.t 55)]), []⟩]
def c32_8 : ACode := .ops [
 ⟨some 58, none, .q (.bin .eql (.t 8) (.v (.int .i64 4))), []⟩,
 ⟨some 57, none, .q (.mv (.t 58)), []⟩]
def c32_9 : ACode := .ops [
 ⟨some 59, none, .q (.mv (.t 0)), []⟩,
 ⟨some 60, none, .q (.ld (some 12) (.t 3)), []⟩,
 ⟨some 61, none, .e (.call 25 [(.t 60)]), []⟩,
 ⟨some 62, none, .e (.call 56 [(.t 59), (.t 61)]), []⟩]
def c32_10 : ACode := .ops [
 ⟨some 64, none, .q (.bin .eql (.t 8) (.v (.int .i64 5))), []⟩,
 ⟨some 63, none, .q (.mv (.t 64)), []⟩]
def c32_11 : ACode := .ops [
 ⟨some 65, none, .q (.mv (.t 0)), []⟩,
 ⟨some 66, none, .q (.fa 3 (.t 3)), []⟩,
 ⟨some 67, none, .q (.ld (some 4) (.t 66)), []⟩,
 ⟨some 68, none, .e (.call 60 [(.t 67)]), []⟩,
 ⟨some 69, none, .e (.call 56 [(.t 65), (.t 68)]), []⟩]
def c32_12 : ACode := .ops [
 ⟨some 71, none, .q (.bin .eql (.t 8) (.v (.int .i64 6))), []⟩,
 ⟨some 70, none, .q (.mv (.t 71)), []⟩]
def c32_13 : ACode := .ops [
 ⟨some 72, none, .q (.mv (.t 0)), []⟩,
 ⟨some 73, none, .q (.fa 3 (.t 3)), []⟩,
 ⟨some 74, none, .q (.ld (some 4) (.t 73)), []⟩,
 ⟨some 75, none, .q (.fa 7 (.t 3)), []⟩,
 ⟨some 76, none, .q (.ld (some 4) (.t 75)), []⟩,
 ⟨some 77, none, .q (.build [(.int .i64 0), (.int .i64 0), (.bool false), (.bool false), (.int .i64 0), (.int .i64 0), (.bool false), (.bool false)] [(0, 4, (.t 74)), (4, 4, (.t 76))]), []⟩,
 ⟨some 78, none, .e (.call 61 [(.t 77)]), []⟩,
 ⟨some 79, none, .e (.call 56 [(.t 72), (.t 78)]), []⟩]
def c32_14 : ACode := .ops [
 ⟨some 81, none, .q (.bin .eql (.t 8) (.v (.int .i64 7))), []⟩,
 ⟨some 80, none, .q (.mv (.t 81)), []⟩]
def c32_15 : ACode := .ops [
 ⟨some 82, none, .q (.bin .eql (.t 8) (.v (.int .i64 8))), []⟩,
 ⟨some 80, none, .q (.mv (.t 82)), []⟩]
def c32_16 : ACode := .cond (.t 80) .skip c32_15
def c32_17 : ACode := .seq c32_14 c32_16
def c32_18 : ACode := .ops [
 ⟨some 83, none, .q (.mv (.t 0)), []⟩,
 ⟨some 84, none, .q (.fa 0 (.t 3)), []⟩,
 ⟨some 85, none, .q (.ld none (.t 84)), []⟩,
 ⟨some 86, none, .q (.bin .sub (.t 85) (.v (.int .i64 7))), []⟩,
 ⟨some 87, none, .q (.idx (.v (.str [45, 43])) (.t 86)), []⟩,
 ⟨some 88, none, .e (.call 62 [(.t 83), (.t 87)]), []⟩]
def c32_19 : ACode := .ops [
 ⟨some 89, none, .q (.mv (.t 0)), []⟩,
 ⟨some 90, none, .q (.fa 11 (.t 3)), []⟩,
 ⟨some 91, none, .q (.ld none (.t 90)), []⟩,
 ⟨some 92, none, .q (.ia 12 (.t 91) (.v (.int .i64 0))), []⟩,
 ⟨some 93, none, .q (.ld (some 12) (.t 92)), []⟩,
 ⟨some 94, none, .e (.call 63 [(.t 89), (.t 93), (.v (.int .i64 6))]), []⟩]
def c32_20 : ACode := .seq c32_18 c32_19
def c32_21 : ACode := .ops [
 ⟨some 96, none, .q (.bin .eql (.t 8) (.v (.int .i64 9))), []⟩,
 ⟨some 95, none, .q (.mv (.t 96)), []⟩]
def c32_22 : ACode := .ops [
 ⟨some 97, none, .q (.mv (.t 0)), []⟩,
 ⟨some 98, none, .q (.fa 11 (.t 3)), []⟩,
 ⟨some 99, none, .q (.ld none (.t 98)), []⟩,
 ⟨some 100, none, .q (.ia 12 (.t 99) (.v (.int .i64 0))), []⟩,
 ⟨some 101, none, .q (.ld (some 12) (.t 100)), []⟩,
 ⟨some 102, none, .e (.call 63 [(.t 97), (.t 101), (.v (.int .i64 7))]), []⟩]
def c32_23 : ACode := .ops [
 ⟨some 103, none, .q (.mv (.t 0)), []⟩,
 ⟨some 104, none, .e (.call 62 [(.t 103), (.v (.int .u8 37))]), []⟩]
def c32_24 : ACode := .seq c32_22 c32_23
def c32_25 : ACode := .ops [
 ⟨some 106, none, .q (.bin .eql (.t 8) (.v (.int .i64 22))), []⟩,
 ⟨some 105, none, .q (.mv (.t 106)), []⟩]
def c32_26 : ACode := .ops [
 ⟨some 107, none, .q (.mv (.t 0)), []⟩,
 ⟨some 108, none, .q (.fa 2 (.t 3)), []⟩,
 ⟨some 109, none, .q (.ld none (.t 108)), []⟩,
 ⟨some 110, none, .e (.call 56 [(.t 107), (.t 109)]), []⟩]
def c32_27 : ACode := .ops [
 ⟨some 111, none, .q (.mv (.t 0)), []⟩,
 ⟨some 112, none, .e (.call 62 [(.t 111), (.v (.int .u8 40))]), []⟩]
def c32_28 : ACode := .ops [
 ⟨some 113, none, .q (.fa 11 (.t 3)), []⟩,
 ⟨some 114, none, .q (.ld none (.t 113)), []⟩,
 ⟨some 115, none, .q (.len (.t 114)), []⟩,
 ⟨some 116, none, .q (.mv (.v (.int .i64 0))), []⟩]
def c32_29 : ACode := .ops [
 ⟨some 117, none, .q (.bin .lss (.t 116) (.t 115)), []⟩]
def c32_30 : ACode := .cond (.t 117) .skip (.exit 1)
def c32_31 : ACode := .ops [
 ⟨some 118, none, .q (.mv (.t 116)), []⟩,
 ⟨some 119, none, .q (.ia 12 (.t 114) (.t 116)), []⟩,
 ⟨some 120, none, .q (.ld (some 12) (.t 119)), []⟩,
 ⟨some 5, none, .e (.alloc [(.int .i64 0), (.int .i64 0), (.str []), (.int .i64 0), (.int .i64 0), (.bool false), (.bool false), (.int .i64 0), (.int .i64 0), (.bool false), (.bool false), (.sl .full [])]), []⟩,
 ⟨some 4, none, .q (.mv (.t 118)), []⟩,
 ⟨none, none, .e (.store 12 (.t 5) (.t 120)), []⟩]
def c32_32 : ACode := .ops [
 ⟨some 121, none, .q (.mv (.t 4)), []⟩,
 ⟨some 122, none, .q (.bin .gtr (.t 121) (.v (.int .i64 0))), []⟩]
def c32_33 : ACode := .ops [
 ⟨some 123, none, .q (.mv (.t 0)), []⟩,
 ⟨some 124, none, .e (.call 62 [(.t 123), (.v (.int .u8 44))]), []⟩]
def c32_34 : ACode := .cond (.t 122) c32_33 .skip
def c32_35 : ACode := .seq c32_32 c32_34
def c32_36 : ACode := .ops [
 ⟨some 125, none, .q (.mv (.t 0)), []⟩,
 ⟨some 126, none, .q (.ld (some 12) (.t 5)), []⟩,
 ⟨some 127, none, .e (.call 32 [(.t 125), (.t 126)]), []⟩]
def c32_37 : ACode := .seq c32_35 c32_36
def c32_38 : ACode := .seq c32_31 c32_37
def c32_39 : ACode := .block 2 c32_38
def c32_40 : ACode := .ops [
 ⟨some 128, none, .q (.bin .add (.t 116) (.v (.int .i64 1))), []⟩,
 ⟨some 116, none, .q (.mv (.t 128)), []⟩]
def c32_41 : ACode := .seq c32_39 c32_40
def c32_42 : ACode := .seq c32_30 c32_41
def c32_43 : ACode := .seq c32_29 c32_42
def c32_44 : ACode := .loop c32_43
def c32_45 : ACode := .block 1 c32_44
def c32_46 : ACode := .seq c32_28 c32_45
def c32_47 : ACode := .ops [
 ⟨some 129, none, .q (.mv (.t 0)), []⟩,
 ⟨some 130, none, .e (.call 62 [(.t 129), (.v (.int .u8 41))]), []⟩]
def c32_48 : ACode := .seq c32_46 c32_47
def c32_49 : ACode := .seq c32_27 c32_48
def c32_50 : ACode := .seq c32_26 c32_49
def c32_51 : ACode := .ops [
 ⟨some 132, none, .q (.bin .eql (.t 8) (.v (.int .i64 23))), []⟩,
 ⟨some 131, none, .q (.mv (.t 132)), []⟩]
def c32_52 : ACode := .ops [
 ⟨some 9, none, .q (.fa 0 (.t 3)), []⟩,
 ⟨some 10, none, .q (.ld none (.t 9)), []⟩,
 ⟨some 11, none, .e (.call 64 [(.t 10)]), []⟩,
 ⟨some 6, none, .q (.mv (.t 11)), []⟩]
def c32_53 : ACode := .ops [
 ⟨some 12, none, .q (.mv (.t 0)), []⟩,
 ⟨some 13, none, .q (.fa 11 (.t 3)), []⟩,
 ⟨some 14, none, .q (.ld none (.t 13)), []⟩,
 ⟨some 15, none, .q (.ia 12 (.t 14) (.v (.int .i64 0))), []⟩,
 ⟨some 16, none, .q (.ld (some 12) (.t 15)), []⟩,
 ⟨some 17, none, .q (.mv (.t 6)), []⟩,
 ⟨some 18, none, .e (.call 63 [(.t 12), (.t 16), (.t 17)]), []⟩]
def c32_54 : ACode := .ops [
 ⟨some 19, none, .q (.mv (.t 0)), []⟩,
 ⟨some 21, none, .q (.fa 0 (.t 3)), []⟩,
 ⟨some 22, none, .q (.ld none (.t 21)), []⟩,
 ⟨some 23, none, .q (.bin .sub (.t 22) (.v (.int .i64 10))), []⟩,
 ⟨some 20, none, .e (.call 20 []), [⟨none, .ld none (.t 21), 22⟩]⟩,
 ⟨some 24, none, .q (.ia 1 (.t 20) (.t 23)), []⟩,
 ⟨some 25, none, .q (.ld none (.t 24)), []⟩,
 ⟨some 26, none, .e (.call 56 [(.t 19), (.t 25)]), []⟩]
def c32_55 : ACode := .ops [
 ⟨some 27, none, .q (.mv (.t 0)), []⟩,
 ⟨some 28, none, .q (.fa 11 (.t 3)), []⟩,
 ⟨some 29, none, .q (.ld none (.t 28)), []⟩,
 ⟨some 30, none, .q (.ia 12 (.t 29) (.v (.int .i64 1))), []⟩,
 ⟨some 31, none, .q (.ld (some 12) (.t 30)), []⟩,
 ⟨some 32, none, .q (.mv (.t 6)), []⟩,
 ⟨some 33, none, .q (.bin .add (.t 32) (.v (.int .i64 1))), []⟩,
 ⟨some 34, none, .e (.call 63 [(.t 27), (.t 31), (.t 33)]), []⟩]
def c32_56 : ACode := .seq c32_54 c32_55
def c32_57 : ACode := .seq c32_53 c32_56
def c32_58 : ACode := .seq c32_52 c32_57
def c32_59 : ACode := .cond (.t 131) .skip c32_58
def c32_60 : ACode := .seq c32_51 c32_59
def c32_61 : ACode := .cond (.t 105) c32_50 c32_60
def c32_62 : ACode := .seq c32_25 c32_61
def c32_63 : ACode := .cond (.t 95) c32_24 c32_62
def c32_64 : ACode := .seq c32_21 c32_63
def c32_65 : ACode := .cond (.t 80) c32_20 c32_64
def c32_66 : ACode := .seq c32_17 c32_65
def c32_67 : ACode := .cond (.t 70) c32_13 c32_66
def c32_68 : ACode := .seq c32_12 c32_67
def c32_69 : ACode := .cond (.t 63) c32_11 c32_68
def c32_70 : ACode := .seq c32_10 c32_69
def c32_71 : ACode := .cond (.t 57) c32_9 c32_70
def c32_72 : ACode := .seq c32_8 c32_71
def c32_73 : ACode := .cond (.t 49) c32_7 c32_72
def c32_74 : ACode := .seq c32_6 c32_73
def c32_75 : ACode := .cond (.t 42) c32_5 c32_74
def c32_76 : ACode := .seq c32_4 c32_75
def c32_77 : ACode := .cond (.t 35) c32_3 c32_76
def c32_78 : ACode := .seq c32_2 c32_77
def c32_79 : ACode := .block 0 c32_78
def c32_80 : ACode := .seq c32_1 c32_79
def c32_81 : ACode := .seq c32_0 c32_80
@[go_sem] theorem c32_0_wp : type_of% (wp_of c32_0.eq_1) := wp_of c32_0.eq_1
@[go_sem] theorem c32_1_wp : type_of% (wp_of c32_1.eq_1) := wp_of c32_1.eq_1
@[go_sem] theorem c32_2_wp : type_of% (wp_of c32_2.eq_1) := wp_of c32_2.eq_1
@[go_sem] theorem c32_3_wp : type_of% (wp_of c32_3.eq_1) := wp_of c32_3.eq_1
@[go_sem] theorem c32_4_wp : type_of% (wp_of c32_4.eq_1) := wp_of c32_4.eq_1
@[go_sem] theorem c32_5_wp : type_of% (wp_of c32_5.eq_1) := wp_of c32_5.eq_1
@[go_sem] theorem c32_6_wp : type_of% (wp_of c32_6.eq_1) := wp_of c32_6.eq_1
@[go_sem] theorem c32_7_wp : type_of% (wp_of c32_7.eq_1) := wp_of c32_7.eq_1
@[go_sem] theorem c32_8_wp : type_of% (wp_of c32_8.eq_1) := wp_of c32_8.eq_1
@[go_sem] theorem c32_9_wp : type_of% (wp_of c32_9.eq_1) := wp_of c32_9.eq_1
@[go_sem] theorem c32_10_wp : type_of% (wp_of c32_10.eq_1) := wp_of c32_10.eq_1
@[go_sem] theorem c32_11_wp : type_of% (wp_of c32_11.eq_1) := wp_of c32_11.eq_1
@[go_sem] theorem c32_12_wp : type_of% (wp_of c32_12.eq_1) := wp_of c32_12.eq_1
@[go_sem] theorem c32_13_wp : type_of% (wp_of c32_13.eq_1) := wp_of c32_13.eq_1
@[go_sem] theorem c32_14_wp : type_of% (wp_of c32_14.eq_1) := wp_of c32_14.eq_1
@[go_sem] theorem c32_15_wp : type_of% (wp_of c32_15.eq_1) := wp_of c32_15.eq_1
@[go_sem] theorem c32_16_wp : type_of% (wp_of c32_16.eq_1) := wp_of c32_16.eq_1
@[go_sem] theorem c32_17_wp : type_of% (wp_of c32_17.eq_1) := wp_of c32_17.eq_1
@[go_sem] theorem c32_18_wp : type_of% (wp_of c32_18.eq_1) := wp_of c32_18.eq_1
@[go_sem] theorem c32_19_wp : type_of% (wp_of c32_19.eq_1) := wp_of c32_19.eq_1
@[go_sem] theorem c32_20_wp : type_of% (wp_of c32_20.eq_1) := wp_of c32_20.eq_1
@[go_sem] theorem c32_21_wp : type_of% (wp_of c32_21.eq_1) := wp_of c32_21.eq_1
@[go_sem] theorem c32_22_wp : type_of% (wp_of c32_22.eq_1) := wp_of c32_22.eq_1
@[go_sem] theorem c32_23_wp : type_of% (wp_of c32_23.eq_1) := wp_of c32_23.eq_1
@[go_sem] theorem c32_24_wp : type_of% (wp_of c32_24.eq_1) := wp_of c32_24.eq_1
@[go_sem] theorem c32_25_wp : type_of% (wp_of c32_25.eq_1) := wp_of c32_25.eq_1
@[go_sem] theorem c32_26_wp : type_of% (wp_of c32_26.eq_1) := wp_of c32_26.eq_1
@[go_sem] theorem c32_27_wp : type_of% (wp_of c32_27.eq_1) := wp_of c32_27.eq_1
@[go_sem] theorem c32_28_wp : type_of% (wp_of c32_28.eq_1) := wp_of c32_28.eq_1
@[go_sem] theorem c32_29_wp : type_of% (wp_of c32_29.eq_1) := wp_of c32_29.eq_1
@[go_sem] theorem c32_30_wp : type_of% (wp_of c32_30.eq_1) := wp_of c32_30.eq_1
@[go_sem] theorem c32_31_wp : type_of% (wp_of c32_31.eq_1) := wp_of c32_31.eq_1
@[go_sem] theorem c32_32_wp : type_of% (wp_of c32_32.eq_1) := wp_of c32_32.eq_1
@[go_sem] theorem c32_33_wp : type_of% (wp_of c32_33.eq_1) := wp_of c32_33.eq_1
@[go_sem] theorem c32_34_wp : type_of% (wp_of c32_34.eq_1) := wp_of c32_34.eq_1
@[go_sem] theorem c32_35_wp : type_of% (wp_of c32_35.eq_1) := wp_of c32_35.eq_1
@[go_sem] theorem c32_36_wp : type_of% (wp_of c32_36.eq_1) := wp_of c32_36.eq_1
@[go_sem] theorem c32_37_wp : type_of% (wp_of c32_37.eq_1) := wp_of c32_37.eq_1
@[go_sem] theorem c32_38_wp : type_of% (wp_of c32_38.eq_1) := wp_of c32_38.eq_1
@[go_sem] theorem c32_39_wp : type_of% (wp_of c32_39.eq_1) := wp_of c32_39.eq_1
@[go_sem] theorem c32_40_wp : type_of% (wp_of c32_40.eq_1) := wp_of c32_40.eq_1
@[go_sem] theorem c32_41_wp : type_of% (wp_of c32_41.eq_1) := wp_of c32_41.eq_1
@[go_sem] theorem c32_42_wp : type_of% (wp_of c32_42.eq_1) := wp_of c32_42.eq_1
@[go_sem] theorem c32_43_wp : type_of% (wp_of c32_43.eq_1) := wp_of c32_43.eq_1
@[go_sem] theorem c32_44_wp : type_of% (wp_of c32_44.eq_1) := wp_of c32_44.eq_1
@[go_sem] theorem c32_45_wp : type_of% (wp_of c32_45.eq_1) := wp_of c32_45.eq_1
@[go_sem] theorem c32_46_wp : type_of% (wp_of c32_46.eq_1) := wp_of c32_46.eq_1
@[go_sem] theorem c32_47_wp : type_of% (wp_of c32_47.eq_1) := wp_of c32_47.eq_1
@[go_sem] theorem c32_48_wp : type_of% (wp_of c32_48.eq_1) := wp_of c32_48.eq_1
@[go_sem] theorem c32_49_wp : type_of% (wp_of c32_49.eq_1) := wp_of c32_49.eq_1
@[go_sem] theorem c32_50_wp : type_of% (wp_of c32_50.eq_1) := wp_of c32_50.eq_1
@[go_sem] theorem c32_51_wp : type_of% (wp_of c32_51.eq_1) := wp_of c32_51.eq_1
@[go_sem] theorem c32_52_wp : type_of% (wp_of c32_52.eq_1) := wp_of c32_52.eq_1
@[go_sem] theorem c32_53_wp : type_of% (wp_of c32_53.eq_1) := wp_of c32_53.eq_1
@[go_sem] theorem c32_54_wp : type_of% (wp_of c32_54.eq_1) := wp_of c32_54.eq_1
@[go_sem] theorem c32_55_wp : type_of% (wp_of c32_55.eq_1) := wp_of c32_55.eq_1
@[go_sem] theorem c32_56_wp : type_of% (wp_of c32_56.eq_1) := wp_of c32_56.eq_1
@[go_sem] theorem c32_57_wp : type_of% (wp_of c32_57.eq_1) := wp_of c32_57.eq_1
@[go_sem] theorem c32_58_wp : type_of% (wp_of c32_58.eq_1) := wp_of c32_58.eq_1
@[go_sem] theorem c32_59_wp : type_of% (wp_of c32_59.eq_1) := wp_of c32_59.eq_1
@[go_sem] theorem c32_60_wp : type_of% (wp_of c32_60.eq_1) := wp_of c32_60.eq_1
@[go_sem] theorem c32_61_wp : type_of% (wp_of c32_61.eq_1) := wp_of c32_61.eq_1
@[go_sem] theorem c32_62_wp : type_of% (wp_of c32_62.eq_1) := wp_of c32_62.eq_1
@[go_sem] theorem c32_63_wp : type_of% (wp_of c32_63.eq_1) := wp_of c32_63.eq_1
@[go_sem] theorem c32_64_wp : type_of% (wp_of c32_64.eq_1) := wp_of c32_64.eq_1
@[go_sem] theorem c32_65_wp : type_of% (wp_of c32_65.eq_1) := wp_of c32_65.eq_1
@[go_sem] theorem c32_66_wp : type_of% (wp_of c32_66.eq_1) := wp_of c32_66.eq_1
@[go_sem] theorem c32_67_wp : type_of% (wp_of c32_67.eq_1) := wp_of c32_67.eq_1
@[go_sem] theorem c32_68_wp : type_of% (wp_of c32_68.eq_1) := wp_of c32_68.eq_1
@[go_sem] theorem c32_69_wp : type_of% (wp_of c32_69.eq_1) := wp_of c32_69.eq_1
@[go_sem] theorem c32_70_wp : type_of% (wp_of c32_70.eq_1) := wp_of c32_70.eq_1
@[go_sem] theorem c32_71_wp : type_of% (wp_of c32_71.eq_1) := wp_of c32_71.eq_1
@[go_sem] theorem c32_72_wp : type_of% (wp_of c32_72.eq_1) := wp_of c32_72.eq_1
@[go_sem] theorem c32_73_wp : type_of% (wp_of c32_73.eq_1) := wp_of c32_73.eq_1
@[go_sem] theorem c32_74_wp : type_of% (wp_of c32_74.eq_1) := wp_of c32_74.eq_1
@[go_sem] theorem c32_75_wp : type_of% (wp_of c32_75.eq_1) := wp_of c32_75.eq_1
@[go_sem] theorem c32_76_wp : type_of% (wp_of c32_76.eq_1) := wp_of c32_76.eq_1
@[go_sem] theorem c32_77_wp : type_of% (wp_of c32_77.eq_1) := wp_of c32_77.eq_1
@[go_sem] theorem c32_78_wp : type_of% (wp_of c32_78.eq_1) := wp_of c32_78.eq_1
@[go_sem] theorem c32_79_wp : type_of% (wp_of c32_79.eq_1) := wp_of c32_79.eq_1
@[go_sem] theorem c32_80_wp : type_of% (wp_of c32_80.eq_1) := wp_of c32_80.eq_1
@[go_sem] theorem c32_81_wp : type_of% (wp_of c32_81.eq_1) := wp_of c32_81.eq_1
def c32 : AFn := ⟨133, [], c32_81⟩
set_option maxRecDepth 100000 in
theorem c32_ok : compF Tryz.prog Tryz.f32 = some c32 := by kernel_rfl
theorem a32 {args : List AV} {σ : ASt} {R : AV → ASt → Prop} (hl : args.length ≤ 133) (h : c32_81.wp Tryz.prog (RetQ [] R) (init args) σ) : ACalls Tryz.prog 32 args σ R := acalls_of Tryz.func32 c32_ok hl h
/-! 63: tabular/expr.inside -/
def c63_0 : ACode := .ops [
 ⟨some 4, none, .e (.box (.t 1)), []⟩]
def c63_1 : ACode := .ops [
 ⟨some 6, none, .q (.fa 0 (.t 4)), []⟩,
 ⟨some 7, none, .q (.ld none (.t 6)), []⟩,
 ⟨some 8, none, .e (.call 64 [(.t 7)]), []⟩,
 ⟨some 9, none, .q (.mv (.t 2)), []⟩,
 ⟨some 10, none, .q (.bin .geq (.t 8) (.t 9)), []⟩]
def c63_2 : ACode := .ops [
 ⟨some 11, none, .q (.mv (.t 0)), []⟩,
 ⟨some 12, none, .q (.ld (some 12) (.t 4)), []⟩,
 ⟨some 13, none, .e (.call 32 [(.t 11), (.t 12)]), []⟩]
def c63_3 : ACode := .seq c63_2 .ret
def c63_4 : ACode := .cond (.t 10) c63_3 .skip
def c63_5 : ACode := .seq c63_1 c63_4
def c63_6 : ACode := .ops [
 ⟨some 14, none, .q (.mv (.t 0)), []⟩,
 ⟨some 15, none, .e (.call 62 [(.t 14), (.v (.int .u8 40))]), []⟩]
def c63_7 : ACode := .ops [
 ⟨some 16, none, .q (.mv (.t 0)), []⟩,
 ⟨some 17, none, .q (.ld (some 12) (.t 4)), []⟩,
 ⟨some 18, none, .e (.call 32 [(.t 16), (.t 17)]), []⟩]
def c63_8 : ACode := .ops [
 ⟨some 19, none, .q (.mv (.t 0)), []⟩,
 ⟨some 20, none, .e (.call 62 [(.t 19), (.v (.int .u8 41))]), []⟩]
def c63_9 : ACode := .seq c63_7 c63_8
def c63_10 : ACode := .seq c63_6 c63_9
def c63_11 : ACode := .seq c63_5 c63_10
def c63_12 : ACode := .seq c63_0 c63_11
@[go_sem] theorem c63_0_wp : type_of% (wp_of c63_0.eq_1) := wp_of c63_0.eq_1
@[go_sem] theorem c63_1_wp : type_of% (wp_of c63_1.eq_1) := wp_of c63_1.eq_1
@[go_sem] theorem c63_2_wp : type_of% (wp_of c63_2.eq_1) := wp_of c63_2.eq_1
@[go_sem] theorem c63_3_wp : type_of% (wp_of c63_3.eq_1) := wp_of c63_3.eq_1
@[go_sem] theorem c63_4_wp : type_of% (wp_of c63_4.eq_1) := wp_of c63_4.eq_1
@[go_sem] theorem c63_5_wp : type_of% (wp_of c63_5.eq_1) := wp_of c63_5.eq_1
@[go_sem] theorem c63_6_wp : type_of% (wp_of c63_6.eq_1) := wp_of c63_6.eq_1
@[go_sem] theorem c63_7_wp : type_of% (wp_of c63_7.eq_1) := wp_of c63_7.eq_1
@[go_sem] theorem c63_8_wp : type_of% (wp_of c63_8.eq_1) := wp_of c63_8.eq_1
@[go_sem] theorem c63_9_wp : type_of% (wp_of c63_9.eq_1) := wp_of c63_9.eq_1
@[go_sem] theorem c63_10_wp : type_of% (wp_of c63_10.eq_1) := wp_of c63_10.eq_1
@[go_sem] theorem c63_11_wp : type_of% (wp_of c63_11.eq_1) := wp_of c63_11.eq_1
@[go_sem] theorem c63_12_wp : type_of% (wp_of c63_12.eq_1) := wp_of c63_12.eq_1
def c63 : AFn := ⟨21, [], c63_12⟩
set_option maxRecDepth 100000 in
theorem c63_ok : compF Tryz.prog Tryz.f63 = some c63 := by kernel_rfl
theorem a63 {args : List AV} {σ : ASt} {R : AV → ASt → Prop} (hl : args.length ≤ 21) (h : c63_12.wp Tryz.prog (RetQ [] R) (init args) σ) : ACalls Tryz.prog 63 args σ R := acalls_of Tryz.func63 c63_ok hl h
end Go.A
namespace Go.A
open Go.Proofs Go.Lib
set_option maxRecDepth 100000
set_option linter.unusedSimpArgs false
set_option linter.unusedVariables false
theorem BD.tab {σ0 σ : ASt} {b : Nat} {l : List UInt8} (h : BD σ0 b l σ) (hb : σ0 b = none) (hT : Tab σ0) : Tab σ := h.at (by intro e; unfold Tab at hT; rw [e, hb] at hT; cases hT) hT
theorem BD.maxL {σ0 σ : ASt} {b : Nat} {l : List UInt8} (h : BD σ0 b l σ) (hb : σ0 b = none) (hM : MaxL σ0) : MaxL σ := by
  obtain ⟨m, hm⟩ := hM
  exact ⟨m, h.at (by intro e; rw [e, hb] at hm; cases hm) hm⟩
theorem MaxL.set {σ : ASt} {b : Nat} {r : Option Role} (h : MaxL σ) (hb : σ b = none) : MaxL (σ.set b r) := by
  obtain ⟨m, hm⟩ := h
  exact ⟨m, by rw [ASt.set_ne]; exact hm; intro e; rw [e, hb] at hm; cases hm⟩
def SpellOk (n : Nd) : Prop := ∀ (σ0 σ : ASt) (b : Nat) (l : List UInt8), BD σ0 b l σ → σ0 b = none → Tab σ0 → MaxL σ0 → l.length + n.spell.length ≤ 900000 →
    ACalls Tryz.prog 32 [.ptr b 0, n.av] σ fun v σ' => v = .tuple [] ∧ BD σ0 b (l ++ n.spell) σ'
theorem inside_ok {n : Nd} (hs : SpellOk n) (ho : 1 ≤ n.op ∧ n.op ≤ 23) (least : Int) {σ0 σ : ASt} {b : Nat} {l : List UInt8} (h : BD σ0 b l σ) (hb : σ0 b = none) (hT : Tab σ0) (hM : MaxL σ0) (hl : l.length + (insT least n.op n.spell).length ≤ 900000) :
    ACalls Tryz.prog 63 [.ptr b 0, n.av, .int .i64 least] σ fun v σ' => v = .tuple [] ∧ BD σ0 b (l ++ insT least n.op n.spell) σ' := by
  have hL := level_ok n.op (by omega) (by omega)
  have hS : ∀ {σ0 σ : ASt} {b : Nat} {l : List UInt8}, BD σ0 b l σ → σ0 b = none → Tab σ0 → MaxL σ0 → l.length + n.spell.length ≤ 900000 →
    ACalls Tryz.prog 32 [.ptr b 0, n.av] σ fun v σ' => v = .tuple [] ∧ BD σ0 b (l ++ n.spell) σ' := fun {_ _ _ _} => hs _ _ _ _
  clear hs
  obtain ⟨op, m, s, a, d, kids⟩ := n
  rw [Nd.av_cs] at hS ⊢
  generalize (Nd.mk op m s a d kids).spell = t at *
  simp only [Nd.op] at hL hl ho ⊢
  generalize kids.map Nd.av = L at *
  refine a63 (by simp) ?_
  simp (disch := first | assumption | omega | (simp only [List.length_append, List.length_cons, List.length_nil]; omega)) only [go_sem]
  refine boxC_by rfl fun c hc => ?_
  obtain ⟨hB, hcb, hc0⟩ := h.add hc (r := .obj (Nd.cs op m s a d L))
  have hb1 : (σ0.set c (some (.obj (Nd.cs op m s a d L)))) b = none := by rw [ASt.set_ne (Ne.symm hcb)]; exact hb
  have hT1 := hT.set hc0 (r := some (.obj (Nd.cs op m s a d L)))
  have hM1 := hM.set hc0 (r := some (.obj (Nd.cs op m s a d L)))
  have hcell : ∀ {l' : List UInt8} {σ1 : ASt}, BD (σ0.set c (some (.obj (Nd.cs op m s a d L)))) b l' σ1 → σ1 c = some (.obj (Nd.cs op m s a d L)) := fun h => h.at hcb (ASt.set_same _ _ _)
  have hoff : ∀ {l' : List UInt8} {σ1 : ASt}, BD (σ0.set c (some (.obj (Nd.cs op m s a d L)))) b l' σ1 → ∃ σ', Drop σ1 σ' ∧ BD σ0 b l' σ' := fun h => h.off hcb hc0
  have hc1 := hcell hB
  rw [cells_agg]
  generalize σ0.set c (some (.obj (Nd.cs op m s a d L))) = τ at hB hb1 hT1 hM1 hcell hoff
  generalize σ.set c (some (.obj (Nd.cs op m s a d L))) = σ1 at hB hc1 ⊢
  unfold insT at hl ⊢
  by_cases hlv : least ≤ levelP op
  · rw [if_pos hlv] at hl ⊢
    generalize levelP op = lv at *
    simp (disch := first | assumption | omega | (simp only [List.length_append, List.length_cons, List.length_nil]; omega)) only [go_sem, ↓reduceIte, hc1]
    refine hL.use ?_
    simp (disch := first | assumption | omega | (simp only [List.length_append, List.length_cons, List.length_nil]; omega)) only [go_sem, reduceCtorEq, Nat.reduceEqDiff, Nat.reduceLeDiff, ↓reduceIte, hc1, hlv]
    refine (hS hB hb1 hT1 hM1 hl).mono ?_
    rintro v σ2 ⟨rfl, hB2⟩
    simp (disch := first | assumption | omega | (simp only [List.length_append, List.length_cons, List.length_nil]; omega)) only [go_sem]
    obtain ⟨σ3, hd, hB3⟩ := hoff hB2
    exact retC_by hd (.refl _) ⟨rfl, hB3⟩
  · rw [if_neg hlv] at hl ⊢
    generalize levelP op = lv at *
    simp only [List.length_append, List.length_cons, List.length_nil] at hl
    simp (disch := first | assumption | omega | (simp only [List.length_append, List.length_cons, List.length_nil]; omega)) only [go_sem, ↓reduceIte, hc1]
    refine hL.use ?_
    simp (disch := first | assumption | omega | (simp only [List.length_append, List.length_cons, List.length_nil]; omega)) only [go_sem, reduceCtorEq, Nat.reduceEqDiff, ↓reduceIte, hlv]
    refine (writeByte_ok hB 40 (by omega)).mono ?_
    rintro v σ2 ⟨rfl, hB2⟩
    have hc2 := hcell hB2
    simp (disch := first | assumption | omega | (simp only [List.length_append, List.length_cons, List.length_nil]; omega)) only [go_sem, reduceCtorEq, Nat.reduceEqDiff, Nat.reduceLeDiff, ↓reduceIte, hc2]
    refine (hS hB2 hb1 hT1 hM1 (by simp only [List.length_append, List.length_cons, List.length_nil]; omega)).mono ?_
    rintro v σ3 ⟨rfl, hB3⟩
    simp (disch := first | assumption | omega | (simp only [List.length_append, List.length_cons, List.length_nil]; omega)) only [go_sem, reduceCtorEq, ↓reduceIte]
    refine (writeByte_ok hB3 41 (by simp only [List.length_append, List.length_cons, List.length_nil]; omega)).mono ?_
    rintro v σ4 ⟨rfl, hB4⟩
    simp (disch := first | assumption | omega | (simp only [List.length_append, List.length_cons, List.length_nil]; omega)) only [go_sem]
    obtain ⟨σ5, hd, hB5⟩ := hoff hB4
    refine retC_by hd (.refl _) ⟨rfl, ?_⟩
    have e : l ++ 40 :: (t ++ [41]) = l ++ [40] ++ t ++ [41] := by simp
    rw [e]; exact hB5
theorem textD_ne (n : Int) : textD n ≠ [] := by
  unfold textD
  have := dd_len_pos (n.natAbs / 10000)
  intro h
  rw [List.append_eq_nil_iff, List.append_eq_nil_iff] at h
  exact this h.2.1
theorem failT_ne {n : Int} (h1 : 1 ≤ n.tdiv 10000) (h2 : n.tdiv 10000 ≤ 7) : failT 4 n ≠ [] := by
  unfold failT
  generalize n.tdiv 10000 = i at *
  rw [if_neg (by omega)]
  have hc : i = 1 ∨ i = 2 ∨ i = 3 ∨ i = 4 ∨ i = 5 ∨ i = 6 ∨ i = 7 := by omega
  rcases hc with rfl | rfl | rfl | rfl | rfl | rfl | rfl <;> decide
theorem truthP_ne (b : Bool) : truthP b ≠ [] := by cases b <;> decide
theorem joinC_snoc : ∀ (L : List (Int × List UInt8)) (p : Int × List UInt8), L ≠ [] → joinC (L ++ [p]) = joinC L ++ 44 :: p.2
  | [], p, h => absurd rfl h
  | q :: r, p, _ => by simp [joinC]
theorem joinC_take_le : ∀ (L : List (Int × List UInt8)) (i : Nat), (joinC (L.take i)).length ≤ (joinC L).length
  | [], i => by simp
  | q :: r, 0 => by simp [joinC]
  | q :: r, i + 1 => by
    rw [List.take_succ_cons]
    simp only [joinC, List.length_append]
    have : ∀ (r : List (Int × List UInt8)) (i : Nat), ((r.take i).flatMap fun q => 44 :: q.2).length ≤ (r.flatMap fun q => 44 :: q.2).length := by
      intro r
      induction r with
      | nil => intro i; simp
      | cons x r ih =>
        intro i
        cases i with
        | zero => simp
        | succ i => rw [List.take_succ_cons, List.flatMap_cons, List.flatMap_cons, List.length_append, List.length_append]; have := ih i; omega
    have := this r i
    omega
theorem textP_ne {r : Ref} (h : r.good = true) : textP r ≠ [] := by
  intro e
  have := (text_len h).1
  rw [e] at this
  simp at this
theorem sign_len (k : Nat) : (signL.getD k []).length ≤ 2 := by
  unfold signL
  rcases k with _|_|_|_|_|_|_|_|_|_|_|_|k <;> simp
set_option maxHeartbeats 2000000 in
theorem spell_ok : ∀ (k : Nat) (n : Nd), n.size ≤ k → n.ok → SpellOk n
  | 0, n, hk, _ => by have := n.size_pos; omega
  | k + 1, n, hk, hn => by
    have ih := spell_ok k
    intro σ0 σ b l h hb hT hM hl
    obtain ⟨op, m, s, a, d, kids⟩ := n
    rw [Nd.size] at hk
    rw [Nd.ok] at hn
    obtain ⟨⟨ho, g1, g2, g4, gc, g5, g6, g7, gb, gk⟩, hks⟩ := hn
    have hkid : ∀ x ∈ kids, SpellOk x ∧ 1 ≤ x.op ∧ x.op ≤ 23 := fun x hx => by
      have h1 := Nd.size_kid hx
      have h2 := Nd.oks_mem.1 hks x hx
      refine ⟨ih x (by omega) h2, ?_⟩
      obtain ⟨o', _, _, _, _, _⟩ := x
      rw [Nd.ok] at h2
      exact h2.1.1
    obtain ⟨w, hw⟩ : ∃ w, (Nd.mk op m s a d kids).spell = w := ⟨_, rfl⟩
    rw [hw] at hl ⊢
    rw [Nd.spell, Nd.spells_map] at hw
    unfold spellK at hw
    rw [Nd.av_cs]
    refine a32 (by simp) ?_
    simp (disch := first | assumption | omega | (simp only [List.length_append, List.length_cons, List.length_nil]; omega)) only [go_sem]
    refine boxC_by rfl fun c hc => ?_
    obtain ⟨hB, hcb, hc0⟩ := h.add hc (r := .obj (Nd.cs op m s a d (kids.map Nd.av)))
    have hb1 : (σ0.set c (some (.obj (Nd.cs op m s a d (kids.map Nd.av))))) b = none := by rw [ASt.set_ne (Ne.symm hcb)]; exact hb
    have hT1 := hT.set hc0 (r := some (.obj (Nd.cs op m s a d (kids.map Nd.av))))
    have hM1 := hM.set hc0 (r := some (.obj (Nd.cs op m s a d (kids.map Nd.av))))
    have hcell : ∀ {l' : List UInt8} {σ1 : ASt}, BD (σ0.set c (some (.obj (Nd.cs op m s a d (kids.map Nd.av))))) b l' σ1 → σ1 c = some (.obj (Nd.cs op m s a d (kids.map Nd.av))) := fun h => h.at hcb (ASt.set_same _ _ _)
    have hoff : ∀ {l' : List UInt8} {σ1 : ASt}, BD (σ0.set c (some (.obj (Nd.cs op m s a d (kids.map Nd.av))))) b l' σ1 → ∃ σ', Drop σ1 σ' ∧ BD σ0 b l' σ' := fun h => h.off hcb hc0
    have hc1 := hcell hB
    rw [cells_agg]
    generalize σ0.set c (some (.obj (Nd.cs op m s a d (kids.map Nd.av)))) = τ at hB hb1 hT1 hM1 hcell hoff
    generalize σ.set c (some (.obj (Nd.cs op m s a d (kids.map Nd.av)))) = σ1 at hB hc1 ⊢
    have hT2 := BD.tab hB hb1 hT1
    have hM2 := BD.maxL hB hb1 hM1
    by_cases h1 : op = 1
    · subst h1
      rw [if_pos rfl] at hw
      subst hw
      simp (disch := first | assumption | omega | (simp only [List.length_append, List.length_cons, List.length_nil]; omega)) only [go_sem, reduceCtorEq, Nat.reduceEqDiff, ↓reduceIte, hc1]
      refine (dtext_ok hT2 (g1 rfl)).mono ?_
      rintro v σ' ⟨rfl, rfl⟩
      simp (disch := first | assumption | omega | (simp only [List.length_append, List.length_cons, List.length_nil]; omega)) only [go_sem, Nat.reduceEqDiff, ↓reduceIte]
      refine (writes1_ok hB _ (textD_ne m) (by omega)).mono ?_
      rintro v σ2 ⟨rfl, hB2⟩
      simp (disch := first | assumption | omega | (simp only [List.length_append, List.length_cons, List.length_nil]; omega)) only [go_sem]
      obtain ⟨σ3, hd, hB3⟩ := hoff hB2
      exact retC_by hd (.refl _) ⟨rfl, hB3⟩
    rw [if_neg h1] at hw
    by_cases h2 : op = 2
    · subst h2
      rw [if_pos rfl] at hw
      have hQ2 := tquote_ok hM2 s (g2 rfl)
      have hQ : quotT s = 34 :: dbl s ++ [34] := rfl
      rw [hQ] at hw
      rw [hw] at hQ2
      have hwn : w ≠ [] := by rw [← hw]; simp
      simp (disch := first | assumption | omega | (simp only [List.length_append, List.length_cons, List.length_nil]; omega)) only [go_sem, reduceCtorEq, Nat.reduceEqDiff, Int.reduceEq, ↓reduceIte, hc1]
      refine hQ2.mono ?_
      rintro v σ' ⟨rfl, rfl⟩
      simp (disch := first | assumption | omega | (simp only [List.length_append, List.length_cons, List.length_nil]; omega)) only [go_sem, Nat.reduceEqDiff, ↓reduceIte]
      refine (writes1_ok hB _ hwn (by omega)).mono ?_
      rintro v σ2 ⟨rfl, hB2⟩
      simp (disch := first | assumption | omega | (simp only [List.length_append, List.length_cons, List.length_nil]; omega)) only [go_sem]
      obtain ⟨σ3, hd, hB3⟩ := hoff hB2
      exact retC_by hd (.refl _) ⟨rfl, hB3⟩
    rw [if_neg h2] at hw
    by_cases h3 : op = 3
    · subst h3
      rw [if_pos rfl] at hw
      have hQ := truth_ok (!decide (m = 0))
      have hwn : w ≠ [] := by rw [← hw]; exact truthP_ne _
      rw [hw] at hQ
      simp (disch := first | assumption | omega | (simp only [List.length_append, List.length_cons, List.length_nil]; omega)) only [go_sem, reduceCtorEq, Nat.reduceEqDiff, Int.reduceEq, ↓reduceIte, hc1]
      refine hQ.use ?_
      simp (disch := first | assumption | omega | (simp only [List.length_append, List.length_cons, List.length_nil]; omega)) only [go_sem, Nat.reduceEqDiff, ↓reduceIte]
      refine (writes1_ok hB _ hwn (by omega)).mono ?_
      rintro v σ2 ⟨rfl, hB2⟩
      simp (disch := first | assumption | omega | (simp only [List.length_append, List.length_cons, List.length_nil]; omega)) only [go_sem]
      obtain ⟨σ3, hd, hB3⟩ := hoff hB2
      exact retC_by hd (.refl _) ⟨rfl, hB3⟩
    rw [if_neg h3] at hw
    by_cases h4 : op = 4
    · subst h4
      rw [if_pos rfl] at hw
      obtain ⟨f1, f2⟩ := g4 rfl
      have hwn : w ≠ [] := by rw [← hw]; exact failT_ne f1 f2
      have hmb : m.natAbs ≤ 999999999999999999 := by have : (m.tdiv 10000).natAbs = m.natAbs / 10000 := Int.natAbs_tdiv m 10000; omega
      have hQ := failure_ok 4 m s a d kids hmb
      rw [Nd.av_cs, hw] at hQ
      simp (disch := first | assumption | omega | (simp only [List.length_append, List.length_cons, List.length_nil]; omega)) only [go_sem, reduceCtorEq, Nat.reduceEqDiff, Nat.reduceLeDiff, Int.reduceEq, ↓reduceIte, hc1]
      refine hQ.use ?_
      simp (disch := first | assumption | omega | (simp only [List.length_append, List.length_cons, List.length_nil]; omega)) only [go_sem, Nat.reduceEqDiff, ↓reduceIte]
      refine (writes1_ok hB _ hwn (by omega)).mono ?_
      rintro v σ2 ⟨rfl, hB2⟩
      simp (disch := first | assumption | omega | (simp only [List.length_append, List.length_cons, List.length_nil]; omega)) only [go_sem]
      obtain ⟨σ3, hd, hB3⟩ := hoff hB2
      exact retC_by hd (.refl _) ⟨rfl, hB3⟩
    rw [if_neg h4] at hw
    by_cases h5 : op = 5
    · subst h5
      rw [if_pos rfl] at hw
      have hQ := text_ok hT2 (g5 (.inl rfl))
      have hwn : w ≠ [] := by rw [← hw]; exact textP_ne (g5 (.inl rfl))
      rw [hw] at hQ
      unfold refAV at hQ
      simp (disch := first | assumption | omega | (simp only [List.length_append, List.length_cons, List.length_nil]; omega)) only [go_sem, reduceCtorEq, Nat.reduceEqDiff, Nat.reduceAdd, Nat.reduceLeDiff, Int.reduceEq, ↓reduceIte, hc1]
      refine hQ.mono ?_
      rintro v σ' ⟨rfl, rfl⟩
      simp (disch := first | assumption | omega | (simp only [List.length_append, List.length_cons, List.length_nil]; omega)) only [go_sem, Nat.reduceEqDiff, ↓reduceIte]
      refine (writes1_ok hB _ hwn (by omega)).mono ?_
      rintro v σ2 ⟨rfl, hB2⟩
      simp (disch := first | assumption | omega | (simp only [List.length_append, List.length_cons, List.length_nil]; omega)) only [go_sem]
      obtain ⟨σ3, hd, hB3⟩ := hoff hB2
      exact retC_by hd (.refl _) ⟨rfl, hB3⟩
    rw [if_neg h5] at hw
    by_cases h6 : op = 6
    · subst h6
      rw [if_pos rfl] at hw
      have hQ := atext_ok hT2 (g5 (.inr rfl)) (g6 rfl)
      have hwn : w ≠ [] := by rw [← hw]; simp
      rw [hw] at hQ
      unfold areaAV at hQ
      simp (disch := first | assumption | omega | (simp only [List.length_append, List.length_cons, List.length_nil]; omega)) only [go_sem, reduceCtorEq, Nat.reduceEqDiff, Nat.reduceAdd, Nat.reduceLeDiff, Int.reduceEq, ↓reduceIte, hc1]
      refine hQ.mono ?_
      rintro v σ' ⟨rfl, rfl⟩
      simp (disch := first | assumption | omega | (simp only [List.length_append, List.length_cons, List.length_nil]; omega)) only [go_sem, Nat.reduceEqDiff, ↓reduceIte]
      refine (writes1_ok hB _ hwn (by omega)).mono ?_
      rintro v σ2 ⟨rfl, hB2⟩
      simp (disch := first | assumption | omega | (simp only [List.length_append, List.length_cons, List.length_nil]; omega)) only [go_sem]
      obtain ⟨σ3, hd, hB3⟩ := hoff hB2
      exact retC_by hd (.refl _) ⟨rfl, hB3⟩
    rw [if_neg h6] at hw
    by_cases h7 : op = 7 ∨ op = 8
    · rw [if_pos h7] at hw
      obtain ⟨x, ks, rfl⟩ : ∃ x ks, kids = x :: ks := by
        cases kids with
        | nil => have := g7 (by omega); simp at this
        | cons x ks => exact ⟨x, ks, rfl⟩
      obtain ⟨i1, i2⟩ := hkid x (by simp)
      have hI := fun l' σ' (hB : BD τ b l' σ') hl' => inside_ok i1 i2 6 hB hb1 hT1 hM1 hl'
      simp only [List.map_cons, List.getD_cons_zero] at hw
      generalize insT 6 x.op x.spell = t at *
      obtain ⟨xo, xm, xs, xa, xb, xk⟩ := x
      simp only [List.map_cons] at hcell hc1 ⊢
      rw [Nd.av_cs] at hI
      simp only [Nd.av_cs] at hcell hc1 ⊢
      generalize ks.map Nd.av = K at *
      rcases h7 with rfl | rfl
      · simp only [if_true] at hw
        subst hw
        simp only [List.length_cons] at hl
        simp (disch := first | assumption | omega | (simp only [List.length_append, List.length_cons, List.length_nil]; omega)) only [go_sem, reduceCtorEq, Nat.reduceEqDiff, Int.reduceEq, ↓reduceIte, Int.reduceSub, hc1]
        refine (writeByte_ok hB 45 (by omega)).mono ?_
        rintro v σ2 ⟨rfl, hB2⟩
        have hc2 := hcell hB2
        simp (disch := first | assumption | omega | (simp only [List.length_append, List.length_cons, List.length_nil]; omega)) only [go_sem, reduceCtorEq, Nat.reduceEqDiff, Nat.reduceLeDiff, ↓reduceIte, hc2]
        refine (hI _ _ hB2 (by simp only [List.length_append, List.length_cons, List.length_nil]; omega)).mono ?_
        rintro v σ3 ⟨rfl, hB3⟩
        simp (disch := first | assumption | omega | (simp only [List.length_append, List.length_cons, List.length_nil]; omega)) only [go_sem]
        obtain ⟨σ4, hd, hB4⟩ := hoff hB3
        refine retC_by hd (.refl _) ⟨rfl, ?_⟩
        have e : l ++ 45 :: t = l ++ [45] ++ t := by simp
        rw [e]; exact hB4
      · rw [if_neg (by decide)] at hw
        subst hw
        simp only [List.length_cons] at hl
        simp (disch := first | assumption | omega | (simp only [List.length_append, List.length_cons, List.length_nil]; omega)) only [go_sem, reduceCtorEq, Nat.reduceEqDiff, Int.reduceEq, ↓reduceIte, Int.reduceSub, Int.reduceToNat, hc1]
        refine (writeByte_ok hB 43 (by omega)).mono ?_
        rintro v σ2 ⟨rfl, hB2⟩
        have hc2 := hcell hB2
        simp (disch := first | assumption | omega | (simp only [List.length_append, List.length_cons, List.length_nil]; omega)) only [go_sem, reduceCtorEq, Nat.reduceEqDiff, Nat.reduceLeDiff, ↓reduceIte, hc2]
        refine (hI _ _ hB2 (by simp only [List.length_append, List.length_cons, List.length_nil]; omega)).mono ?_
        rintro v σ3 ⟨rfl, hB3⟩
        simp (disch := first | assumption | omega | (simp only [List.length_append, List.length_cons, List.length_nil]; omega)) only [go_sem]
        obtain ⟨σ4, hd, hB4⟩ := hoff hB3
        refine retC_by hd (.refl _) ⟨rfl, ?_⟩
        have e : l ++ 43 :: t = l ++ [43] ++ t := by simp
        rw [e]; exact hB4
    rw [if_neg h7] at hw
    have h7a : op ≠ 7 := by omega
    have h7b : op ≠ 8 := by omega
    by_cases h9 : op = 9
    · subst h9
      rw [if_pos rfl] at hw
      obtain ⟨x, ks, rfl⟩ : ∃ x ks, kids = x :: ks := by
        cases kids with
        | nil => have := g7 (by omega); simp at this
        | cons x ks => exact ⟨x, ks, rfl⟩
      obtain ⟨i1, i2⟩ := hkid x (by simp)
      have hI := fun l' σ' (hB : BD τ b l' σ') hl' => inside_ok i1 i2 7 hB hb1 hT1 hM1 hl'
      simp only [List.map_cons, List.getD_cons_zero] at hw
      generalize insT 7 x.op x.spell = t at *
      obtain ⟨xo, xm, xs, xa, xb, xk⟩ := x
      rw [Nd.av_cs] at hI
      simp only [List.map_cons, Nd.av_cs] at hcell hc1 ⊢
      generalize ks.map Nd.av = K at *
      subst hw
      simp only [List.length_append, List.length_cons, List.length_nil] at hl
      simp (disch := first | assumption | omega | (simp only [List.length_append, List.length_cons, List.length_nil]; omega)) only [go_sem, reduceCtorEq, Nat.reduceEqDiff, Nat.reduceLeDiff, Int.reduceEq, ↓reduceIte, hc1]
      refine (hI _ _ hB (by omega)).mono ?_
      rintro v σ2 ⟨rfl, hB2⟩
      simp (disch := first | assumption | omega | (simp only [List.length_append, List.length_cons, List.length_nil]; omega)) only [go_sem, reduceCtorEq, ↓reduceIte]
      refine (writeByte_ok hB2 37 (by simp only [List.length_append]; omega)).mono ?_
      rintro v σ3 ⟨rfl, hB3⟩
      simp (disch := first | assumption | omega | (simp only [List.length_append, List.length_cons, List.length_nil]; omega)) only [go_sem]
      obtain ⟨σ4, hd, hB4⟩ := hoff hB3
      refine retC_by hd (.refl _) ⟨rfl, ?_⟩
      rw [← List.append_assoc]; exact hB4
    rw [if_neg h9] at hw
    by_cases h22 : op = 22
    · subst h22
      rw [if_pos rfl] at hw
      have hsn := gc rfl
      have hjt := joinC_take_le (kids.map fun x => (x.op, x.spell))
      have hspl : ∀ (i : Nat) (x : Nd), kids[i]? = some x → (kids.map fun x => (x.op, x.spell)).take (i + 1) = (kids.map fun x => (x.op, x.spell)).take i ++ [(x.op, x.spell)] := by
        intro i x hx
        have hlt : i < kids.length := (List.getElem?_eq_some_iff.1 hx).1
        rw [List.take_add_one, List.getElem?_map, hx]
        rfl
      have hspn : ∀ i, 0 < i → i < kids.length → (kids.map fun x => (x.op, x.spell)).take i ≠ [] := by
        intro i h0 h1 e
        have := congrArg List.length e
        rw [List.length_take, List.length_map, List.length_nil] at this
        omega
      have hspa : (kids.map fun x => (x.op, x.spell)).take kids.length = kids.map fun x => (x.op, x.spell) := List.take_of_length_le (by simp)
      have hspz : joinC ((kids.map fun x => (x.op, x.spell)).take 0) = [] := rfl
      generalize (kids.map fun x => (x.op, x.spell)) = sp at *
      subst hw
      simp only [List.length_append, List.length_cons, List.length_nil] at hl
      simp (disch := first | assumption | omega | (simp only [List.length_append, List.length_cons, List.length_nil]; omega)) only [go_sem, reduceCtorEq, Nat.reduceEqDiff, Int.reduceEq, ↓reduceIte, hc1]
      refine (writes1_ok hB _ hsn (by omega)).mono ?_
      rintro v σ2 ⟨rfl, hB2⟩
      simp (disch := first | assumption | omega | (simp only [List.length_append, List.length_cons, List.length_nil]; omega)) only [go_sem, reduceCtorEq, ↓reduceIte]
      refine (writeByte_ok hB2 40 (by simp only [List.length_append]; omega)).mono ?_
      rintro v σ3 ⟨rfl, hB3⟩
      have hc3 := hcell hB3
      obtain ⟨G, hG⟩ : ∃ G, G = ACode.wp Tryz.prog c32_47 := ⟨_, rfl⟩
      simp (disch := first | assumption | omega | (simp only [List.length_append, List.length_cons, List.length_nil]; omega)) only [go_sem, Nat.reduceEqDiff, ↓reduceIte, hc3, ←hG]
      refine wp_loop_by (fun (i : Nat) a1 s2 => i ≤ kids.length ∧ (a1 0 = .ptr b 0 ∧ a1 114 = .sl .shr (kids.map Nd.av) ∧ a1 115 = .int .i64 kids.length ∧ a1 116 = .int .i64 i) ∧ BD τ b (l ++ s ++ [40] ++ joinC (sp.take i)) s2) (fun i => kids.length - i) 0 (Dr.now ⟨Nat.zero_le _, ?_, ?_⟩) ?_
      · simp (disch := first | assumption | omega | (simp only [List.length_append, List.length_cons, List.length_nil]; omega)) only [go_sem, reduceCtorEq, Nat.reduceEqDiff, ↓reduceIte]
      · rw [hspz, List.append_nil]; exact hB3
      rintro i a1 s2 ⟨hi, hf, hBi⟩
      have hji := hjt i
      by_cases hlt : i < kids.length
      · have hlt' : (i : Int) < kids.length := by omega
        have hx : kids[i]? = some (kids[i]'hlt) := List.getElem?_eq_getElem hlt
        obtain ⟨x, hxe⟩ : ∃ x, kids[i]'hlt = x := ⟨_, rfl⟩
        rw [hxe] at hx
        have hmx := Nd.get hx
        have hspx := hspl i x hx
        have hjs := hjt (i + 1)
        obtain ⟨i1, i2⟩ := hkid x (List.mem_of_getElem? hx)
        obtain ⟨xo, xm, xs, xa, xb, xk⟩ := x
        rw [Nd.av_cs] at hmx
        have i1' : ∀ (σ0 σ : ASt) (b : Nat) (l : List UInt8), BD σ0 b l σ → σ0 b = none → Tab σ0 → MaxL σ0 → l.length + (Nd.mk xo xm xs xa xb xk).spell.length ≤ 900000 →
            ACalls Tryz.prog 32 [.ptr b 0, .agg (Nd.cs xo xm xs xa xb (xk.map Nd.av))] σ fun v σ' => v = .tuple [] ∧ BD σ0 b (l ++ (Nd.mk xo xm xs xa xb xk).spell) σ' := by rw [← Nd.av_cs]; exact i1
        generalize hxw : (Nd.mk xo xm xs xa xb xk).spell = xw at *
        generalize xk.map Nd.av = K at *
        generalize kids.map Nd.av = L at *
        simp (disch := first | assumption | omega | (simp only [List.length_append, List.length_cons, List.length_nil]; omega)) only [go_sem, Nat.reduceEqDiff, Nat.reduceLeDiff, ↓reduceIte, hf, hlt', hmx]
        refine allocC_by fun e he => ?_
        obtain ⟨hBe, heb, he0⟩ := hBi.add he (r := .obj (Nd.cs xo xm xs xa xb K))
        have hbe : (τ.set e (some (.obj (Nd.cs xo xm xs xa xb K)))) b = none := by rw [ASt.set_ne (Ne.symm heb)]; exact hb1
        have hTe := hT1.set he0 (r := some (.obj (Nd.cs xo xm xs xa xb K)))
        have hMe := hM1.set he0 (r := some (.obj (Nd.cs xo xm xs xa xb K)))
        have hcelle : ∀ {l' : List UInt8} {σ1 : ASt}, BD (τ.set e (some (.obj (Nd.cs xo xm xs xa xb K)))) b l' σ1 → σ1 e = some (.obj (Nd.cs xo xm xs xa xb K)) := fun h => h.at heb (ASt.set_same _ _ _)
        have hoffe : ∀ {l' : List UInt8} {σ1 : ASt}, BD (τ.set e (some (.obj (Nd.cs xo xm xs xa xb K)))) b l' σ1 → ∃ σ', Drop σ1 σ' ∧ BD τ b l' σ' := fun h => h.off heb he0
        have hce := hcelle hBe
        by_cases h0 : i = 0
        · subst h0
          have hz : ((0 : Nat) : Int) = 0 := rfl
          have hj1 : joinC (sp.take (0 + 1)) = xw := by rw [hspx]; simp [joinC]
          rw [hj1] at hjs
          rw [hspz, List.append_nil] at hBe
          simp (disch := first | assumption | omega | (simp only [List.length_append, List.length_cons, List.length_nil]; omega)) only [go_sem, reduceCtorEq, Nat.reduceEqDiff, Nat.reduceAdd, Nat.reduceLeDiff, Int.reduceLT, ↓reduceIte, hf, hz, ASt.set_set, hce]
          refine (i1' _ _ _ _ hBe hbe hTe hMe (by simp only [List.length_append, List.length_cons, List.length_nil]; omega)).mono ?_
          rintro v σ4 ⟨rfl, hB4⟩
          simp (disch := first | assumption | omega | (simp only [List.length_append, List.length_cons, List.length_nil]; omega)) only [go_sem, Nat.reduceEqDiff, ↓reduceIte, Int.reduceAdd, hf]
          obtain ⟨σ5, hd, hB5⟩ := hoffe hB4
          refine ⟨0 + 1, by dsimp only; omega, Dr.drop hd ⟨by omega, ?_, ?_⟩⟩
          · simp (disch := first | assumption | omega | (simp only [List.length_append, List.length_cons, List.length_nil]; omega)) only [go_sem, reduceCtorEq, Nat.reduceEqDiff, ↓reduceIte, hf]
          · rw [hj1]; exact hB5
        · have h0' : (0 : Int) < i := by omega
          have hj1 : joinC (sp.take (i + 1)) = joinC (sp.take i) ++ 44 :: xw := by rw [hspx, joinC_snoc _ _ (hspn i (by omega) hlt)]
          rw [hj1] at hjs
          simp only [List.length_append, List.length_cons] at hjs
          simp (disch := first | assumption | omega | (simp only [List.length_append, List.length_cons, List.length_nil]; omega)) only [go_sem, reduceCtorEq, Nat.reduceEqDiff, Nat.reduceAdd, Nat.reduceLeDiff, ↓reduceIte, hf, h0', ASt.set_set]
          refine (writeByte_ok hBe 44 (by simp only [List.length_append, List.length_cons, List.length_nil]; omega)).mono ?_
          rintro v σ4 ⟨rfl, hB4⟩
          have hc4 := hcelle hB4
          simp (disch := first | assumption | omega | (simp only [List.length_append, List.length_cons, List.length_nil]; omega)) only [go_sem, reduceCtorEq, Nat.reduceEqDiff, Nat.reduceLeDiff, ↓reduceIte, hf, hc4]
          refine (i1' _ _ _ _ hB4 hbe hTe hMe (by simp only [List.length_append, List.length_cons, List.length_nil]; omega)).mono ?_
          rintro v σ5 ⟨rfl, hB5⟩
          simp (disch := first | assumption | omega | (simp only [List.length_append, List.length_cons, List.length_nil]; omega)) only [go_sem, Nat.reduceEqDiff, ↓reduceIte, hf]
          obtain ⟨σ6, hd, hB6⟩ := hoffe hB5
          refine ⟨i + 1, by dsimp only; omega, Dr.drop hd ⟨by omega, ?_, ?_⟩⟩
          · simp (disch := first | assumption | omega | (simp only [List.length_append, List.length_cons, List.length_nil]; omega)) only [go_sem, reduceCtorEq, Nat.reduceEqDiff, ↓reduceIte, hf]
          · have e2 : l ++ s ++ [40] ++ joinC (sp.take (i + 1)) = l ++ s ++ [40] ++ joinC (sp.take i) ++ [44] ++ xw := by rw [hj1]; simp
            rw [e2]; exact hB6
      · have hlt' : ¬ (i : Int) < kids.length := by omega
        have hie : i = kids.length := by omega
        rw [hie, hspa] at hBi
        simp (disch := first | assumption | omega | (simp only [List.length_append, List.length_cons, List.length_nil]; omega)) only [go_sem, ↓reduceIte, hf, hlt']
        rw [hG]
        simp (disch := first | assumption | omega | (simp only [List.length_append, List.length_cons, List.length_nil]; omega)) only [go_sem, reduceCtorEq, ↓reduceIte, hf]
        refine (writeByte_ok hBi 41 (by simp only [List.length_append, List.length_cons, List.length_nil]; omega)).mono ?_
        rintro v σ4 ⟨rfl, hB4⟩
        simp (disch := first | assumption | omega | (simp only [List.length_append, List.length_cons, List.length_nil]; omega)) only [go_sem]
        obtain ⟨σ5, hd, hB5⟩ := hoff hB4
        refine retC_by hd (.refl _) ⟨rfl, ?_⟩
        have e2 : l ++ (s ++ 40 :: (joinC sp ++ [41])) = l ++ s ++ [40] ++ joinC sp ++ [41] := by simp
        first
          | (rw [e2]; exact hB5)
          | (have e3 : l ++ (s ++ 40 :: joinC sp ++ [41]) = l ++ s ++ [40] ++ joinC sp ++ [41] := by simp
             rw [e3]; exact hB5)
    rw [if_neg h22] at hw
    by_cases h23 : op = 23
    · subst h23
      rw [if_pos rfl] at hw
      subst hw
      simp (disch := first | assumption | omega | (simp only [List.length_append, List.length_cons, List.length_nil]; omega)) only [go_sem, Nat.reduceEqDiff, Int.reduceEq, ↓reduceIte, hc1]
      obtain ⟨σ3, hd, hB3⟩ := hoff hB
      exact retC_by hd (.refl _) ⟨rfl, hB3⟩
    rw [if_neg h23] at hw
    obtain ⟨x, y, ks, rfl⟩ : ∃ x y ks, kids = x :: y :: ks := by
      have := gb (by omega)
      match kids, this with
      | x :: y :: ks, _ => exact ⟨x, y, ks, rfl⟩
    obtain ⟨i1, i2⟩ := hkid x (by simp)
    obtain ⟨j1, j2⟩ := hkid y (by simp)
    have hI := fun l' σ' (hB : BD τ b l' σ') hl' => inside_ok i1 i2 (levelP op) hB hb1 hT1 hM1 hl'
    have hJ := fun l' σ' (hB : BD τ b l' σ') hl' => inside_ok j1 j2 (levelP op + 1) hB hb1 hT1 hM1 hl'
    have hLv := level_ok op (by omega) (by omega)
    have hlb : 0 ≤ levelP op ∧ levelP op ≤ 8 := by unfold levelP; repeat' split
                                                   all_goals omega
    simp only [List.map_cons, List.getD_cons_zero, List.getD_cons_succ] at hw
    generalize insT (levelP op) x.op x.spell = t at *
    generalize insT (levelP op + 1) y.op y.spell = u at *
    generalize levelP op = lv at *
    obtain ⟨xo, xm, xs, xa, xb, xk⟩ := x
    obtain ⟨yo, ym, ys, ya, yb, yk⟩ := y
    rw [Nd.av_cs] at hI hJ
    simp only [List.map_cons, Nd.av_cs] at hcell hc1 ⊢
    generalize ks.map Nd.av = K at *
    obtain ⟨j, hj⟩ : ∃ j : Nat, op = j + 10 := ⟨(op - 10).toNat, by omega⟩
    have hj2 : (op - 10).toNat = j := by omega
    have hj3 : op - 10 = (j : Int) := by omega
    rw [hj2] at hw
    have hjl : j < 12 := by omega
    obtain ⟨sg, hsg⟩ : ∃ sg, signL[j]? = some sg := ⟨signL[j]'(by simp [signL]; omega), List.getElem?_eq_getElem _⟩
    have hsg2 : signL.getD j [] = sg := by rw [List.getD_eq_getElem?_getD, hsg]; rfl
    have hsl := sign_len j
    have hsn : sg ≠ [] := by
      have : ∀ j < 12, signL.getD j [] ≠ [] := by decide
      rw [← hsg2]; exact this j hjl
    rw [hsg2] at hw hsl
    have hmg : (signL.map AV.str)[j]? = some (.str sg) := by rw [List.getElem?_map, hsg]; rfl
    have hSg := esigns_ok
    generalize signL.map AV.str = SL at *
    subst hw
    simp only [List.length_append] at hl
    simp (disch := first | assumption | omega | (simp only [List.length_append, List.length_cons, List.length_nil]; omega)) only [go_sem, Nat.reduceEqDiff, ↓reduceIte, hc1, h1, h2, h3, h4, h5, h6, h7a, h7b, h9, h22, h23]
    refine hLv.use ?_
    simp (disch := first | assumption | omega | (simp only [List.length_append, List.length_cons, List.length_nil]; omega)) only [go_sem, reduceCtorEq, Nat.reduceEqDiff, Nat.reduceLeDiff, ↓reduceIte, hc1]
    refine (hI _ _ hB (by omega)).mono ?_
    rintro v σ2 ⟨rfl, hB2⟩
    have hc2 := hcell hB2
    simp (disch := first | assumption | omega | (simp only [List.length_append, List.length_cons, List.length_nil]; omega)) only [go_sem, reduceCtorEq, Nat.reduceEqDiff, ↓reduceIte, hc2]
    refine hSg.use ?_
    simp (disch := first | assumption | omega | (simp only [List.length_append, List.length_cons, List.length_nil]; omega)) only [go_sem, Nat.reduceEqDiff, ↓reduceIte, hc2, hj3, hmg]
    refine (writes1_ok hB2 _ hsn (by simp only [List.length_append]; omega)).mono ?_
    rintro v σ3 ⟨rfl, hB3⟩
    have hc3 := hcell hB3
    simp (disch := first | assumption | omega | (simp only [List.length_append, List.length_cons, List.length_nil]; omega)) only [go_sem, reduceCtorEq, Nat.reduceEqDiff, Nat.reduceLeDiff, ↓reduceIte, Int.reduceToNat, hc3]
    refine (hJ _ _ hB3 (by simp only [List.length_append]; omega)).mono ?_
    rintro v σ4 ⟨rfl, hB4⟩
    simp (disch := first | assumption | omega | (simp only [List.length_append, List.length_cons, List.length_nil]; omega)) only [go_sem]
    obtain ⟨σ5, hd, hB5⟩ := hoff hB4
    refine retC_by hd (.refl _) ⟨rfl, ?_⟩
    have e : l ++ (t ++ (sg ++ u)) = l ++ t ++ sg ++ u := by simp
    first
      | (rw [e]; exact hB5)
      | (rw [← List.append_assoc, ← List.append_assoc]; exact hB5)
end Go.A
namespace Go.A
open Go.Proofs
/-! 8: tabular/tabularlaw12.awake -/
def c8_0 : ACode := .ops [
 ⟨some 0, none, .q (.mv (.v (.bool false))), []⟩]
def c8_1 : ACode := .ops [
 ⟨some 6, none, .q (.build [(.int .i64 0), (.int .i64 0), (.str []), (.int .i64 0), (.int .i64 0), (.bool false), (.bool false), (.int .i64 0), (.int .i64 0), (.bool false), (.bool false), (.sl .full [])] [(0, 1, (.v (.int .i64 1))), (1, 1, (.v (.int .i64 10000)))]), []⟩,
 ⟨some 1, none, .e (.alloc [(.int .i64 0), (.int .i64 0), (.str []), (.int .i64 0), (.int .i64 0), (.bool false), (.bool false), (.int .i64 0), (.int .i64 0), (.bool false), (.bool false), (.sl .full [])]), []⟩,
 ⟨none, none, .e (.store 12 (.t 1) (.t 6)), []⟩]
def c8_2 : ACode := .ops [
 ⟨some 7, none, .q (.build [(.int .i64 0), (.int .i64 0), (.str []), (.int .i64 0), (.int .i64 0), (.bool false), (.bool false), (.int .i64 0), (.int .i64 0), (.bool false), (.bool false), (.sl .full [])] [(0, 1, (.v (.int .i64 1))), (1, 1, (.v (.int .i64 20000)))]), []⟩,
 ⟨some 2, none, .e (.alloc [(.int .i64 0), (.int .i64 0), (.str []), (.int .i64 0), (.int .i64 0), (.bool false), (.bool false), (.int .i64 0), (.int .i64 0), (.bool false), (.bool false), (.sl .full [])]), []⟩,
 ⟨none, none, .e (.store 12 (.t 2) (.t 7)), []⟩]
def c8_3 : ACode := .ops [
 ⟨some 8, none, .q (.ld (some 12) (.t 1)), []⟩,
 ⟨some 9, none, .q (.ld (some 12) (.t 2)), []⟩,
 ⟨some 10, none, .q (.bsl 12 [(.t 8), (.t 9)]), []⟩,
 ⟨some 11, none, .q (.build [(.int .i64 0), (.int .i64 0), (.str []), (.int .i64 0), (.int .i64 0), (.bool false), (.bool false), (.int .i64 0), (.int .i64 0), (.bool false), (.bool false), (.sl .full [])] [(0, 1, (.v (.int .i64 11))), (11, 1, (.t 10))]), []⟩,
 ⟨some 3, none, .e (.alloc [(.int .i64 0), (.int .i64 0), (.str []), (.int .i64 0), (.int .i64 0), (.bool false), (.bool false), (.int .i64 0), (.int .i64 0), (.bool false), (.bool false), (.sl .full [])]), []⟩,
 ⟨none, none, .e (.store 12 (.t 3) (.t 11)), []⟩]
def c8_4 : ACode := .ops [
 ⟨some 12, none, .q (.ld (some 12) (.t 3)), []⟩,
 ⟨some 13, none, .q (.ld (some 12) (.t 1)), []⟩,
 ⟨some 14, none, .q (.bsl 12 [(.t 12), (.t 13)]), []⟩,
 ⟨some 15, none, .q (.build [(.int .i64 0), (.int .i64 0), (.str []), (.int .i64 0), (.int .i64 0), (.bool false), (.bool false), (.int .i64 0), (.int .i64 0), (.bool false), (.bool false), (.sl .full [])] [(0, 1, (.v (.int .i64 11))), (11, 1, (.t 14))]), []⟩,
 ⟨some 4, none, .e (.alloc [(.int .i64 0), (.int .i64 0), (.str []), (.int .i64 0), (.int .i64 0), (.bool false), (.bool false), (.int .i64 0), (.int .i64 0), (.bool false), (.bool false), (.sl .full [])]), []⟩,
 ⟨none, none, .e (.store 12 (.t 4) (.t 15)), []⟩]
def c8_5 : ACode := .ops [
 ⟨some 16, none, .q (.ld (some 12) (.t 1)), []⟩,
 ⟨some 17, none, .q (.ld (some 12) (.t 3)), []⟩,
 ⟨some 18, none, .q (.bsl 12 [(.t 16), (.t 17)]), []⟩,
 ⟨some 19, none, .q (.build [(.int .i64 0), (.int .i64 0), (.str []), (.int .i64 0), (.int .i64 0), (.bool false), (.bool false), (.int .i64 0), (.int .i64 0), (.bool false), (.bool false), (.sl .full [])] [(0, 1, (.v (.int .i64 11))), (11, 1, (.t 18))]), []⟩,
 ⟨some 5, none, .e (.alloc [(.int .i64 0), (.int .i64 0), (.str []), (.int .i64 0), (.int .i64 0), (.bool false), (.bool false), (.int .i64 0), (.int .i64 0), (.bool false), (.bool false), (.sl .full [])]), []⟩,
 ⟨none, none, .e (.store 12 (.t 5) (.t 19)), []⟩]
def c8_6 : ACode := .ops [
 ⟨some 20, none, .q (.ld (some 12) (.t 4)), []⟩,
 ⟨some 21, none, .e (.call 9 [(.t 20)]), []⟩,
 ⟨some 22, none, .q (.bin .eql (.t 21) (.v (.str [49, 45, 50, 45, 49]))), []⟩,
 ⟨some 23, none, .q (.mv (.t 22)), []⟩,
 ⟨some 24, some (23, true), .q (.ld (some 12) (.t 5)), []⟩,
 ⟨some 25, some (23, true), .e (.call 9 [(.t 24)]), []⟩,
 ⟨some 26, some (23, true), .q (.bin .eql (.t 25) (.v (.str [49, 45, 40, 49, 45, 50, 41]))), []⟩,
 ⟨some 27, none, .q (.pick (.t 23) (.t 26) (.v (.bool false))), []⟩,
 ⟨some 28, none, .q (.mv (.t 27)), []⟩,
 ⟨some 29, some (28, true), .q (.ld (some 12) (.t 4)), []⟩,
 ⟨some 30, some (28, true), .e (.call 13 [(.t 29)]), []⟩,
 ⟨some 31, some (28, true), .q (.bin .eql (.t 30) (.v (.int .i64 5))), []⟩,
 ⟨some 32, none, .q (.pick (.t 28) (.t 31) (.v (.bool false))), []⟩,
 ⟨some 33, none, .q (.mv (.t 32)), []⟩,
 ⟨some 34, some (33, true), .q (.ld (some 12) (.t 4)), []⟩,
 ⟨some 35, some (33, true), .e (.call 15 [(.t 34)]), []⟩,
 ⟨some 36, some (33, true), .q (.bin .eql (.t 35) (.v (.int .i64 3))), []⟩,
 ⟨some 37, none, .q (.pick (.t 33) (.t 36) (.v (.bool false))), []⟩,
 ⟨some 0, none, .q (.mv (.t 37)), []⟩]
def c8_7 : ACode := .seq c8_6 .ret
def c8_8 : ACode := .seq c8_5 c8_7
def c8_9 : ACode := .seq c8_4 c8_8
def c8_10 : ACode := .seq c8_3 c8_9
def c8_11 : ACode := .seq c8_2 c8_10
def c8_12 : ACode := .seq c8_1 c8_11
def c8_13 : ACode := .seq c8_0 c8_12
@[go_sem] theorem c8_0_wp : type_of% (wp_of c8_0.eq_1) := wp_of c8_0.eq_1
@[go_sem] theorem c8_1_wp : type_of% (wp_of c8_1.eq_1) := wp_of c8_1.eq_1
@[go_sem] theorem c8_2_wp : type_of% (wp_of c8_2.eq_1) := wp_of c8_2.eq_1
@[go_sem] theorem c8_3_wp : type_of% (wp_of c8_3.eq_1) := wp_of c8_3.eq_1
@[go_sem] theorem c8_4_wp : type_of% (wp_of c8_4.eq_1) := wp_of c8_4.eq_1
@[go_sem] theorem c8_5_wp : type_of% (wp_of c8_5.eq_1) := wp_of c8_5.eq_1
@[go_sem] theorem c8_6_wp : type_of% (wp_of c8_6.eq_1) := wp_of c8_6.eq_1
@[go_sem] theorem c8_7_wp : type_of% (wp_of c8_7.eq_1) := wp_of c8_7.eq_1
@[go_sem] theorem c8_8_wp : type_of% (wp_of c8_8.eq_1) := wp_of c8_8.eq_1
@[go_sem] theorem c8_9_wp : type_of% (wp_of c8_9.eq_1) := wp_of c8_9.eq_1
@[go_sem] theorem c8_10_wp : type_of% (wp_of c8_10.eq_1) := wp_of c8_10.eq_1
@[go_sem] theorem c8_11_wp : type_of% (wp_of c8_11.eq_1) := wp_of c8_11.eq_1
@[go_sem] theorem c8_12_wp : type_of% (wp_of c8_12.eq_1) := wp_of c8_12.eq_1
@[go_sem] theorem c8_13_wp : type_of% (wp_of c8_13.eq_1) := wp_of c8_13.eq_1
def c8 : AFn := ⟨38, [.t 0], c8_13⟩
set_option maxRecDepth 100000 in
theorem c8_ok : compF Tryz.prog Tryz.f8 = some c8 := by kernel_rfl
theorem a8 {args : List AV} {σ : ASt} {R : AV → ASt → Prop} (hl : args.length ≤ 38) (h : c8_13.wp Tryz.prog (RetQ [.t 0] R) (init args) σ) : ACalls Tryz.prog 8 args σ R := acalls_of Tryz.func8 c8_ok hl h
/-! 9: tabular/expr.Print -/
def c9_0 : ACode := .ops [
 ⟨some 1, none, .e (.box (.t 0)), []⟩,
 ⟨some 2, none, .q (.mv (.v (.str []))), []⟩]
def c9_1 : ACode := .ops [
 ⟨some 3, none, .e (.allocT 72), []⟩]
def c9_2 : ACode := .ops [
 ⟨some 4, none, .q (.ld (some 12) (.t 1)), []⟩,
 ⟨some 5, none, .e (.call 32 [(.t 3), (.t 4)]), []⟩]
def c9_3 : ACode := .ops [
 ⟨some 6, none, .e (.call 33 [(.t 3)]), []⟩,
 ⟨some 2, none, .q (.mv (.t 6)), []⟩]
def c9_4 : ACode := .seq c9_3 .ret
def c9_5 : ACode := .seq c9_2 c9_4
def c9_6 : ACode := .seq c9_1 c9_5
def c9_7 : ACode := .seq c9_0 c9_6
@[go_sem] theorem c9_0_wp : type_of% (wp_of c9_0.eq_1) := wp_of c9_0.eq_1
@[go_sem] theorem c9_1_wp : type_of% (wp_of c9_1.eq_1) := wp_of c9_1.eq_1
@[go_sem] theorem c9_2_wp : type_of% (wp_of c9_2.eq_1) := wp_of c9_2.eq_1
@[go_sem] theorem c9_3_wp : type_of% (wp_of c9_3.eq_1) := wp_of c9_3.eq_1
@[go_sem] theorem c9_4_wp : type_of% (wp_of c9_4.eq_1) := wp_of c9_4.eq_1
@[go_sem] theorem c9_5_wp : type_of% (wp_of c9_5.eq_1) := wp_of c9_5.eq_1
@[go_sem] theorem c9_6_wp : type_of% (wp_of c9_6.eq_1) := wp_of c9_6.eq_1
@[go_sem] theorem c9_7_wp : type_of% (wp_of c9_7.eq_1) := wp_of c9_7.eq_1
def c9 : AFn := ⟨7, [.t 2], c9_7⟩
set_option maxRecDepth 100000 in
theorem c9_ok : compF Tryz.prog Tryz.f9 = some c9 := by kernel_rfl
theorem a9 {args : List AV} {σ : ASt} {R : AV → ASt → Prop} (hl : args.length ≤ 7) (h : c9_7.wp Tryz.prog (RetQ [.t 2] R) (init args) σ) : ACalls Tryz.prog 9 args σ R := acalls_of Tryz.func9 c9_ok hl h
/-! 19: tabular/tabularref12.Signs -/
end Go.A
namespace Go.A
open Go.Proofs Go.Lib
set_option maxRecDepth 100000
set_option linter.unusedSimpArgs false
set_option linter.unusedVariables false
theorem print_ok {σ : ASt} (hT : Tab σ) (hM : MaxL σ) (n : Nd) (hn : n.ok) (hl : n.spell.length ≤ 900000) : ACalls Tryz.prog 9 [n.av] σ fun v σ' => v = .str n.spell ∧ σ' = σ := by
  have hS := spell_ok n.size n (Nat.le_refl _) hn
  obtain ⟨op, m, s, a, d, kids⟩ := n
  unfold SpellOk at hS
  rw [Nd.av_cs] at hS ⊢
  generalize (Nd.mk op m s a d kids).spell = w at *
  generalize kids.map Nd.av = L at *
  refine a9 (by simp) ?_
  simp (disch := first | assumption | omega | (simp only [List.length_append, List.length_cons, List.length_nil]; omega)) only [go_sem]
  refine boxC_by rfl fun c hc => ?_
  simp (disch := first | assumption | omega | (simp only [List.length_append, List.length_cons, List.length_nil]; omega)) only [go_sem]
  refine allocTC_by fun b hb => ?_
  have hbb := hb
  obtain ⟨n1, n2, n3⟩ := set_none hb
  have hB : BD (σ.set c (some (.obj (Nd.cs op m s a d L)))) b [] ((σ.set c (some (.obj (Nd.cs op m s a d L)))).set b (some (.typ 72 [.pointer none, .slice none 0 0]))) := .inl ⟨rfl, rfl⟩
  have hT1 := hT.set hc (r := some (.obj (Nd.cs op m s a d L)))
  have hM1 := hM.set hc (r := some (.obj (Nd.cs op m s a d L)))
  simp (disch := first | assumption | omega | (simp only [List.length_append, List.length_cons, List.length_nil]; omega)) only [go_sem, Nat.reduceEqDiff, Nat.reduceLeDiff, ↓reduceIte]
  refine (hS _ _ _ _ hB hbb hT1 hM1 (by simp only [List.length_nil]; omega)).mono ?_
  rintro v σ1 ⟨rfl, hB1⟩
  rw [List.nil_append] at hB1
  simp (disch := first | assumption | omega | (simp only [List.length_append, List.length_cons, List.length_nil]; omega)) only [go_sem, Nat.reduceEqDiff, ↓reduceIte]
  refine (bstring_ok hB1 (by omega)).mono ?_
  rintro v σ2 ⟨rfl, rfl⟩
  simp (disch := first | assumption | omega | (simp only [List.length_append, List.length_cons, List.length_nil]; omega)) only [go_sem, ↓reduceIte]
  exact retC_by ((hB1.over hbb).drop.trans (Drop.set hc)) (.refl _) ⟨rfl, rfl⟩
theorem textD_one : textD 10000 = [49] := by
  unfold textD
  rw [if_neg (by decide), show (10000 : Int).natAbs / 10000 = 1 from rfl, show (10000 : Int).natAbs % 10000 = 0 from rfl, dd_small (by decide)]
  decide
theorem textD_two : textD 20000 = [50] := by
  unfold textD
  rw [if_neg (by decide), show (20000 : Int).natAbs / 10000 = 2 from rfl, show (20000 : Int).natAbs % 10000 = 0 from rfl, dd_small (by decide)]
  decide
def numN (n : Int) : Nd := .mk 1 n [] .zero .zero []
def binN (op : Int) (x y : Nd) : Nd := .mk op 0 [] .zero .zero [x, y]
theorem numN_ok {n : Int} (h : n.natAbs ≤ 999999999999999999) : (numN n).ok := by
  unfold numN
  rw [Nd.ok]
  refine ⟨?_, trivial⟩
  unfold nodeOk
  simp
  omega
theorem binN_ok {op : Int} {x y : Nd} (h : 10 ≤ op ∧ op ≤ 21) (hx : x.ok) (hy : y.ok) : (binN op x y).ok := by
  unfold binN
  rw [Nd.ok, Nd.oks, Nd.oks, Nd.oks]
  refine ⟨?_, hx, hy, trivial⟩
  unfold nodeOk
  simp
  omega
theorem numN_spell (n : Int) : (numN n).spell = textD n := by unfold numN; rw [Nd.spell]; rfl
theorem binN_spell {op : Int} {x y : Nd} (h : 10 ≤ op ∧ op ≤ 21) : (binN op x y).spell = insT (levelP op) x.op x.spell ++ signL.getD (op - 10).toNat [] ++ insT (levelP op + 1) y.op y.spell := by
  unfold binN
  rw [Nd.spell, Nd.spells, Nd.spells, Nd.spells]
  unfold spellK
  rw [if_neg (by omega), if_neg (by omega), if_neg (by omega), if_neg (by omega), if_neg (by omega), if_neg (by omega), if_neg (by omega), if_neg (by omega), if_neg (by omega), if_neg (by omega)]
  rfl
def sumN : Nd := binN 11 (numN 10000) (numN 20000)
def awl : Nd := binN 11 sumN (numN 10000)
def awr : Nd := binN 11 (numN 10000) sumN
theorem sum_spell : sumN.spell = [49, 45, 50] := by
  unfold sumN
  rw [binN_spell (by decide), numN_spell, numN_spell, textD_one, textD_two]
  rfl
theorem awl_spell : awl.spell = [49, 45, 50, 45, 49] := by
  unfold awl
  rw [binN_spell (by decide), sum_spell, numN_spell, textD_one]
  rfl
theorem awr_spell : awr.spell = [49, 45, 40, 49, 45, 50, 41] := by
  unfold awr
  rw [binN_spell (by decide), sum_spell, numN_spell, textD_one]
  rfl
theorem sum_ok : sumN.ok := binN_ok (by decide) (numN_ok (by decide)) (numN_ok (by decide))
theorem awl_ok : awl.ok := binN_ok (by decide) sum_ok (numN_ok (by decide))
theorem awr_ok : awr.ok := binN_ok (by decide) (numN_ok (by decide)) sum_ok
set_option maxHeartbeats 1000000 in
theorem eawake_ok {σ : ASt} (hT : Tab σ) (hM : MaxL σ) : ACalls Tryz.prog 8 [] σ fun v σ' => v = .bool true ∧ σ' = σ := by
  refine a8 (by simp) ?_
  simp (disch := first | assumption | omega | (simp only [List.length_append, List.length_cons, List.length_nil]; omega)) only [go_sem, Nat.reduceAdd, Nat.reduceLeDiff, ↓reduceIte]
  refine allocC_by fun b1 h1 => ?_
  simp (disch := first | assumption | omega | (simp only [List.length_append, List.length_cons, List.length_nil]; omega)) only [go_sem, Nat.reduceEqDiff, Nat.reduceAdd, Nat.reduceLeDiff, ↓reduceIte, Bool.true_and, ASt.set_set]
  refine allocC_by fun b2 h2 => ?_
  have k2 := h2
  repeat (with_reducible replace h2 := set_none h2; obtain ⟨_, _, h2⟩ := h2)
  simp (disch := first | assumption | omega | (simp only [List.length_append, List.length_cons, List.length_nil]; omega)) only [go_sem, Nat.reduceEqDiff, Nat.reduceAdd, Nat.reduceLeDiff, ↓reduceIte, Bool.true_and, ASt.set_set]
  refine allocC_by fun b3 h3 => ?_
  have k3 := h3
  repeat (with_reducible replace h3 := set_none h3; obtain ⟨_, _, h3⟩ := h3)
  simp (disch := first | assumption | omega | (simp only [List.length_append, List.length_cons, List.length_nil]; omega)) only [go_sem, Nat.reduceEqDiff, Nat.reduceAdd, Nat.reduceLeDiff, ↓reduceIte, Bool.true_and, ASt.set_set]
  refine allocC_by fun b4 h4 => ?_
  have k4 := h4
  repeat (with_reducible replace h4 := set_none h4; obtain ⟨_, _, h4⟩ := h4)
  simp (disch := first | assumption | omega | (simp only [List.length_append, List.length_cons, List.length_nil]; omega)) only [go_sem, Nat.reduceEqDiff, Nat.reduceAdd, Nat.reduceLeDiff, ↓reduceIte, Bool.true_and, ASt.set_set]
  refine allocC_by fun b5 h5 => ?_
  have k5 := h5
  repeat (with_reducible replace h5 := set_none h5; obtain ⟨_, _, h5⟩ := h5)
  have p1 := fun τ h1 h2 => print_ok (σ := τ) h1 h2 awl awl_ok (by rw [awl_spell]; decide)
  have p2 := fun τ h1 h2 => print_ok (σ := τ) h1 h2 awr awr_ok (by rw [awr_spell]; decide)
  have p3 := nsize_ok awl (by decide)
  have p4 := ndepth_ok awl (by decide)
  rw [awl_spell] at p1
  rw [awr_spell] at p2
  rw [show awl.size = 5 from rfl] at p3
  rw [show awl.depth = 3 from rfl] at p4
  simp (disch := first | assumption | omega | (simp only [List.length_append, List.length_cons, List.length_nil]; omega)) only [go_sem, Nat.reduceEqDiff, Nat.reduceAdd, Nat.reduceLeDiff, ↓reduceIte, Bool.true_and, ASt.set_set]
  refine ACalls.deep (args' := [awl.av]) rfl ((p1 _ (((((hT.set h1).set k2).set k3).set k4).set k5) (((((hM.set h1).set k2).set k3).set k4).set k5)).mono ?_)
  rintro v σ' ⟨rfl, rfl⟩
  simp (disch := first | assumption | omega | (simp only [List.length_append, List.length_cons, List.length_nil]; omega)) only [go_sem, Nat.reduceEqDiff, Nat.reduceAdd, Nat.reduceLeDiff, ↓reduceIte]
  refine ACalls.deep (args' := [awr.av]) rfl ((p2 _ (((((hT.set h1).set k2).set k3).set k4).set k5) (((((hM.set h1).set k2).set k3).set k4).set k5)).mono ?_)
  rintro v σ' ⟨rfl, rfl⟩
  simp (disch := first | assumption | omega | (simp only [List.length_append, List.length_cons, List.length_nil]; omega)) only [go_sem, Nat.reduceEqDiff, Nat.reduceAdd, Nat.reduceLeDiff, ↓reduceIte]
  refine ACalls.deep (args' := [awl.av]) rfl (p3.use ?_)
  simp (disch := first | assumption | omega | (simp only [List.length_append, List.length_cons, List.length_nil]; omega)) only [go_sem, Nat.reduceEqDiff, Nat.reduceAdd, Nat.reduceLeDiff, ↓reduceIte]
  refine ACalls.deep (args' := [awl.av]) rfl (p4.use ?_)
  simp (disch := first | assumption | omega | (simp only [List.length_append, List.length_cons, List.length_nil]; omega)) only [go_sem, Nat.reduceEqDiff, ↓reduceIte]
  exact retC_by (by repeat' (first | exact Drop.refl _ | with_reducible refine Drop.off ?_ (by assumption))) (.refl _) ⟨rfl, rfl⟩
theorem set_mid {σ : ASt} {b c : Nat} {X Y Z : Option Role} (h : b ≠ c) : ((σ.set b X).set c Y).set b Z = (σ.set b Z).set c Y := by
  funext x
  simp only [ASt.set]
  by_cases h1 : x = b
  · subst h1; simp [h]
  · simp [h1]
end Go.A
namespace Go.A
open Go.Proofs
/-! 11: tabular/expr.Same -/
def c11_0 : ACode := .ops [
 ⟨some 2, none, .e (.box (.t 0)), []⟩,
 ⟨some 3, none, .e (.box (.t 1)), []⟩,
 ⟨some 4, none, .q (.mv (.v (.bool false))), []⟩]
def c11_1 : ACode := .ops [
 ⟨some 5, none, .q (.fa 0 (.t 2)), []⟩,
 ⟨some 6, none, .q (.ld none (.t 5)), []⟩,
 ⟨some 7, none, .q (.fa 0 (.t 3)), []⟩,
 ⟨some 8, none, .q (.ld none (.t 7)), []⟩,
 ⟨some 9, none, .q (.bin .eql (.t 6) (.t 8)), []⟩,
 ⟨some 10, none, .q (.mv (.t 9)), []⟩,
 ⟨some 11, some (10, true), .q (.fa 1 (.t 2)), []⟩,
 ⟨some 12, some (10, true), .q (.ld none (.t 11)), []⟩,
 ⟨some 13, some (10, true), .q (.fa 1 (.t 3)), []⟩,
 ⟨some 14, some (10, true), .q (.ld none (.t 13)), []⟩,
 ⟨some 15, some (10, true), .q (.bin .eql (.t 12) (.t 14)), []⟩,
 ⟨some 16, none, .q (.pick (.t 10) (.t 15) (.v (.bool false))), []⟩,
 ⟨some 17, none, .q (.mv (.t 16)), []⟩,
 ⟨some 18, some (17, true), .q (.fa 2 (.t 2)), []⟩,
 ⟨some 19, some (17, true), .q (.ld none (.t 18)), []⟩,
 ⟨some 20, some (17, true), .q (.fa 2 (.t 3)), []⟩,
 ⟨some 21, some (17, true), .q (.ld none (.t 20)), []⟩,
 ⟨some 22, some (17, true), .q (.bin .eql (.t 19) (.t 21)), []⟩,
 ⟨some 23, none, .q (.pick (.t 17) (.t 22) (.v (.bool false))), []⟩,
 ⟨some 24, none, .q (.mv (.t 23)), []⟩,
 ⟨some 25, some (24, true), .q (.fa 3 (.t 2)), []⟩,
 ⟨some 26, some (24, true), .q (.ld (some 4) (.t 25)), []⟩,
 ⟨some 27, some (24, true), .q (.fa 3 (.t 3)), []⟩,
 ⟨some 28, some (24, true), .q (.ld (some 4) (.t 27)), []⟩,
 ⟨some 29, some (24, true), .q (.eqs false [(0, 0), (1, 0), (2, 1), (3, 1)] (.t 26) (.t 28)), []⟩,
 ⟨some 30, none, .q (.pick (.t 24) (.t 29) (.v (.bool false))), []⟩,
 ⟨some 31, none, .q (.mv (.t 30)), []⟩,
 ⟨some 32, some (31, true), .q (.fa 7 (.t 2)), []⟩,
 ⟨some 33, some (31, true), .q (.ld (some 4) (.t 32)), []⟩,
 ⟨some 34, some (31, true), .q (.fa 7 (.t 3)), []⟩,
 ⟨some 35, some (31, true), .q (.ld (some 4) (.t 34)), []⟩,
 ⟨some 36, some (31, true), .q (.eqs false [(0, 0), (1, 0), (2, 1), (3, 1)] (.t 33) (.t 35)), []⟩,
 ⟨some 37, none, .q (.pick (.t 31) (.t 36) (.v (.bool false))), []⟩,
 ⟨some 38, none, .q (.mv (.t 37)), []⟩,
 ⟨some 39, some (38, true), .q (.fa 11 (.t 2)), []⟩,
 ⟨some 40, some (38, true), .q (.ld none (.t 39)), []⟩,
 ⟨some 41, some (38, true), .q (.fa 11 (.t 3)), []⟩,
 ⟨some 42, some (38, true), .q (.ld none (.t 41)), []⟩,
 ⟨some 43, some (38, true), .e (.call 39 [(.t 40), (.t 42), (.v (.func (.func 11) [] []))]), []⟩,
 ⟨some 44, none, .q (.pick (.t 38) (.t 43) (.v (.bool false))), []⟩,
 ⟨some 4, none, .q (.mv (.t 44)), []⟩]
def c11_2 : ACode := .seq c11_1 .ret
def c11_3 : ACode := .seq c11_0 c11_2
@[go_sem] theorem c11_0_wp : type_of% (wp_of c11_0.eq_1) := wp_of c11_0.eq_1
@[go_sem] theorem c11_1_wp : type_of% (wp_of c11_1.eq_1) := wp_of c11_1.eq_1
@[go_sem] theorem c11_2_wp : type_of% (wp_of c11_2.eq_1) := wp_of c11_2.eq_1
@[go_sem] theorem c11_3_wp : type_of% (wp_of c11_3.eq_1) := wp_of c11_3.eq_1
def c11 : AFn := ⟨45, [.t 4], c11_3⟩
set_option maxRecDepth 100000 in
theorem c11_ok : compF Tryz.prog Tryz.f11 = some c11 := by kernel_rfl
theorem a11 {args : List AV} {σ : ASt} {R : AV → ASt → Prop} (hl : args.length ≤ 45) (h : c11_3.wp Tryz.prog (RetQ [.t 4] R) (init args) σ) : ACalls Tryz.prog 11 args σ R := acalls_of Tryz.func11 c11_ok hl h
/-! 17: tabular/expr.Areas -/
/-! 39: slices.EqualFunc[[]tabular/expr.Node,[]tabular/expr.Node,tabular/expr.Node,tabular/expr.Node] -/
def c39_0 : ACode := .ops [
 ⟨some 6, none, .q (.mv (.v (.bool false))), []⟩]
def c39_1 : ACode := .ops [
 ⟨some 10, none, .q (.mv (.t 0)), []⟩,
 ⟨some 11, none, .q (.len (.t 10)), []⟩,
 ⟨some 12, none, .q (.mv (.t 1)), []⟩,
 ⟨some 13, none, .q (.len (.t 12)), []⟩,
 ⟨some 14, none, .q (.bin .neq (.t 11) (.t 13)), []⟩]
def c39_2 : ACode := .ops [
 ⟨some 6, none, .q (.mv (.v (.bool false))), []⟩]
def c39_3 : ACode := .seq c39_2 .ret
def c39_4 : ACode := .cond (.t 14) c39_3 .skip
def c39_5 : ACode := .seq c39_1 c39_4
def c39_6 : ACode := .ops [
 ⟨some 15, none, .q (.mv (.t 0)), []⟩,
 ⟨some 16, none, .q (.len (.t 15)), []⟩,
 ⟨some 17, none, .q (.mv (.v (.int .i64 0))), []⟩]
def c39_7 : ACode := .ops [
 ⟨some 18, none, .q (.bin .lss (.t 17) (.t 16)), []⟩]
def c39_8 : ACode := .cond (.t 18) .skip (.exit 0)
def c39_9 : ACode := .ops [
 ⟨some 19, none, .q (.mv (.t 17)), []⟩,
 ⟨some 20, none, .q (.ia 12 (.t 15) (.t 17)), []⟩,
 ⟨some 21, none, .q (.ld (some 12) (.t 20)), []⟩,
 ⟨some 8, none, .e (.alloc [(.int .i64 0), (.int .i64 0), (.str []), (.int .i64 0), (.int .i64 0), (.bool false), (.bool false), (.int .i64 0), (.int .i64 0), (.bool false), (.bool false), (.sl .full [])]), []⟩,
 ⟨some 7, none, .q (.mv (.t 19)), []⟩,
 ⟨none, none, .e (.store 12 (.t 8) (.t 21)), []⟩]
def c39_10 : ACode := .ops [
 ⟨some 22, none, .q (.mv (.t 1)), []⟩,
 ⟨some 23, none, .q (.mv (.t 7)), []⟩,
 ⟨some 24, none, .q (.ia 12 (.t 22) (.t 23)), []⟩,
 ⟨some 25, none, .q (.ld (some 12) (.t 24)), []⟩,
 ⟨some 9, none, .e (.alloc [(.int .i64 0), (.int .i64 0), (.str []), (.int .i64 0), (.int .i64 0), (.bool false), (.bool false), (.int .i64 0), (.int .i64 0), (.bool false), (.bool false), (.sl .full [])]), []⟩,
 ⟨none, none, .e (.store 12 (.t 9) (.t 25)), []⟩]
def c39_11 : ACode := .ops [
 ⟨some 26, none, .q (.mv (.t 2)), []⟩,
 ⟨some 27, none, .q (.ld (some 12) (.t 8)), []⟩,
 ⟨some 28, none, .q (.ld (some 12) (.t 9)), []⟩,
 ⟨some 29, none, .e (.callv (.t 26) [(.t 27), (.t 28)]), []⟩,
 ⟨some 30, none, .q (.un .not (.t 29)), []⟩]
def c39_12 : ACode := .ops [
 ⟨some 6, none, .q (.mv (.v (.bool false))), []⟩]
def c39_13 : ACode := .seq c39_12 .ret
def c39_14 : ACode := .cond (.t 30) c39_13 .skip
def c39_15 : ACode := .seq c39_11 c39_14
def c39_16 : ACode := .seq c39_10 c39_15
def c39_17 : ACode := .seq c39_9 c39_16
def c39_18 : ACode := .block 1 c39_17
def c39_19 : ACode := .ops [
 ⟨some 31, none, .q (.bin .add (.t 17) (.v (.int .i64 1))), []⟩,
 ⟨some 17, none, .q (.mv (.t 31)), []⟩]
def c39_20 : ACode := .seq c39_18 c39_19
def c39_21 : ACode := .seq c39_8 c39_20
def c39_22 : ACode := .seq c39_7 c39_21
def c39_23 : ACode := .loop c39_22
def c39_24 : ACode := .block 0 c39_23
def c39_25 : ACode := .seq c39_6 c39_24
def c39_26 : ACode := .ops [
 ⟨some 6, none, .q (.mv (.v (.bool true))), []⟩]
def c39_27 : ACode := .seq c39_26 .ret
def c39_28 : ACode := .seq c39_25 c39_27
def c39_29 : ACode := .seq c39_5 c39_28
def c39_30 : ACode := .seq c39_0 c39_29
@[go_sem] theorem c39_0_wp : type_of% (wp_of c39_0.eq_1) := wp_of c39_0.eq_1
@[go_sem] theorem c39_1_wp : type_of% (wp_of c39_1.eq_1) := wp_of c39_1.eq_1
@[go_sem] theorem c39_2_wp : type_of% (wp_of c39_2.eq_1) := wp_of c39_2.eq_1
@[go_sem] theorem c39_3_wp : type_of% (wp_of c39_3.eq_1) := wp_of c39_3.eq_1
@[go_sem] theorem c39_4_wp : type_of% (wp_of c39_4.eq_1) := wp_of c39_4.eq_1
@[go_sem] theorem c39_5_wp : type_of% (wp_of c39_5.eq_1) := wp_of c39_5.eq_1
@[go_sem] theorem c39_6_wp : type_of% (wp_of c39_6.eq_1) := wp_of c39_6.eq_1
@[go_sem] theorem c39_7_wp : type_of% (wp_of c39_7.eq_1) := wp_of c39_7.eq_1
@[go_sem] theorem c39_8_wp : type_of% (wp_of c39_8.eq_1) := wp_of c39_8.eq_1
@[go_sem] theorem c39_9_wp : type_of% (wp_of c39_9.eq_1) := wp_of c39_9.eq_1
@[go_sem] theorem c39_10_wp : type_of% (wp_of c39_10.eq_1) := wp_of c39_10.eq_1
@[go_sem] theorem c39_11_wp : type_of% (wp_of c39_11.eq_1) := wp_of c39_11.eq_1
@[go_sem] theorem c39_12_wp : type_of% (wp_of c39_12.eq_1) := wp_of c39_12.eq_1
@[go_sem] theorem c39_13_wp : type_of% (wp_of c39_13.eq_1) := wp_of c39_13.eq_1
@[go_sem] theorem c39_14_wp : type_of% (wp_of c39_14.eq_1) := wp_of c39_14.eq_1
@[go_sem] theorem c39_15_wp : type_of% (wp_of c39_15.eq_1) := wp_of c39_15.eq_1
@[go_sem] theorem c39_16_wp : type_of% (wp_of c39_16.eq_1) := wp_of c39_16.eq_1
@[go_sem] theorem c39_17_wp : type_of% (wp_of c39_17.eq_1) := wp_of c39_17.eq_1
@[go_sem] theorem c39_18_wp : type_of% (wp_of c39_18.eq_1) := wp_of c39_18.eq_1
@[go_sem] theorem c39_19_wp : type_of% (wp_of c39_19.eq_1) := wp_of c39_19.eq_1
@[go_sem] theorem c39_20_wp : type_of% (wp_of c39_20.eq_1) := wp_of c39_20.eq_1
@[go_sem] theorem c39_21_wp : type_of% (wp_of c39_21.eq_1) := wp_of c39_21.eq_1
@[go_sem] theorem c39_22_wp : type_of% (wp_of c39_22.eq_1) := wp_of c39_22.eq_1
@[go_sem] theorem c39_23_wp : type_of% (wp_of c39_23.eq_1) := wp_of c39_23.eq_1
@[go_sem] theorem c39_24_wp : type_of% (wp_of c39_24.eq_1) := wp_of c39_24.eq_1
@[go_sem] theorem c39_25_wp : type_of% (wp_of c39_25.eq_1) := wp_of c39_25.eq_1
@[go_sem] theorem c39_26_wp : type_of% (wp_of c39_26.eq_1) := wp_of c39_26.eq_1
@[go_sem] theorem c39_27_wp : type_of% (wp_of c39_27.eq_1) := wp_of c39_27.eq_1
@[go_sem] theorem c39_28_wp : type_of% (wp_of c39_28.eq_1) := wp_of c39_28.eq_1
@[go_sem] theorem c39_29_wp : type_of% (wp_of c39_29.eq_1) := wp_of c39_29.eq_1
@[go_sem] theorem c39_30_wp : type_of% (wp_of c39_30.eq_1) := wp_of c39_30.eq_1
def c39 : AFn := ⟨32, [.t 6], c39_30⟩
set_option maxRecDepth 100000 in
theorem c39_ok : compF Tryz.prog Tryz.f39 = some c39 := by kernel_rfl
theorem a39 {args : List AV} {σ : ASt} {R : AV → ASt → Prop} (hl : args.length ≤ 32) (h : c39_30.wp Tryz.prog (RetQ [.t 6] R) (init args) σ) : ACalls Tryz.prog 39 args σ R := acalls_of Tryz.func39 c39_ok hl h
/-! 40: tabular/expr.areas -/
/-! 68: (tabular/addr.Ref).Rect -/
/-! 70: slices.Contains[[]tabular/addr.Rect,tabular/addr.Rect] -/
/-! 91: slices.Index[[]tabular/addr.Rect,tabular/addr.Rect] -/
end Go.A
namespace Go.A
set_option linter.unusedSimpArgs false
set_option linter.unusedVariables false
def OwnSl (σ0 σ : ASt) (v : AV) (xs : List AV) (s : Nat) : Prop :=
  (xs = [] ∧ v = .sl .full [] ∧ σ = σ0) ∨ ∃ b c rest, v = .msl b 0 xs.length c ∧ xs.length ≤ c ∧ rest.length = (c - xs.length) * s ∧ σ0 b = none ∧ σ = σ0.set b (some (.obj (xs.flatMap AV.cells ++ rest)))
theorem OwnSl.drop {σ0 σ : ASt} {v : AV} {xs : List AV} {s : Nat} (h : OwnSl σ0 σ v xs s) : Drop σ σ0 := by
  rcases h with ⟨_, _, rfl⟩ | ⟨b, c, rest, _, _, _, hb, rfl⟩
  · exact Drop.refl _
  · exact Drop.set hb
def zrow (s : Nat) (z : List AV) (n c : Nat) : List AV := (List.range ((c - n) * s)).map fun i => z.getD (i % s) .any
theorem zrow_len (s : Nat) (z : List AV) (n c : Nat) : (zrow s z n c).length = (c - n) * s := by simp [zrow]
theorem ownRow_z {s n c : Nat} {z cs : List AV} : ownRow s z cs n c = cs ++ zrow s z n c := rfl
theorem OwnSl.app {e : TypeId} {σ0 σ : ASt} {v : AV} {xs ys z : List AV} {s bytes : Nat} {k2 : SK} {K : AV → ASt → Prop} (h : OwnSl σ0 σ v xs s) (hx : ∀ x ∈ xs, x.cells.length = s) (h2 : wellSz s ys = true) (h3 : leaves (ys.flatMap AV.cells) = true)
    (h4 : (xs.length + ys.length) * bytes ≤ 140737488355328) (h5 : xs.length + ys.length ≤ 4611686018427387904) (h6 : 0 < ys.length)
    (hK : ∀ v' σ', (∃ σ2, Drop σ' σ2 ∧ OwnSl σ0 σ2 v' (xs ++ ys) s) → K v' σ') : appC e s bytes z v (.sl k2 ys) σ K := by
  have hyl : (ys.flatMap AV.cells).length = ys.length * s := lens_flat (wellSz_lens h2)
  have hxl : (xs.flatMap AV.cells).length = xs.length * s := lens_flat hx
  rcases h with ⟨rfl, rfl, rfl⟩ | ⟨b, c, rest, rfl, hc, hr, hb, rfl⟩
  · refine appO_by rfl h2 h3 h4 h5 h6 fun b c hb hc => hK _ _ ⟨_, Drop.refl _, .inr ⟨b, c, zrow s z (([] : List AV).length + ys.length) c, ?_, ?_, ?_, hb, ?_⟩⟩
    · simp
    · simpa using hc
    · rw [zrow_len]; simp
    · rw [ownRow_z]; simp only [List.nil_append, List.flatMap_nil]
  · rw [appC_msl, ASt.set_same]
    refine appM_by h2 h3 h4 h5 (by rw [List.length_append, hxl, hr]; omega) (fun hroom => ⟨?_, ?_⟩) (fun hgrow b' c' hb' hc' => ?_)
    · rw [List.length_append, hxl, hr, Nat.zero_add, ← Nat.add_mul]
      exact Nat.mul_le_mul_right _ (by omega)
    · rw [ASt.set_set]
      refine hK _ _ ⟨_, Drop.refl _, .inr ⟨b, c, rest.drop (ys.length * s), by simp, by simpa using hroom, ?_, hb, ?_⟩⟩
      · rw [List.length_drop, hr, ← Nat.sub_mul, List.length_append]
        congr 1
        omega
      · congr 3
        unfold splice
        rw [Nat.zero_add, List.flatMap_append]
        have e1 : (xs.flatMap AV.cells ++ rest).take (xs.length * s) = xs.flatMap AV.cells := by rw [← hxl]; simp
        have e2 : (xs.flatMap AV.cells ++ rest).drop (xs.length * s + ys.length * s) = rest.drop (ys.length * s) := by rw [← hxl, ← List.drop_drop]; simp
        rw [e1, e2]
    · obtain ⟨m1, m2, hb0⟩ := set_none hb'
      have e1 : ((xs.flatMap AV.cells ++ rest).drop 0).take (xs.length * s) = xs.flatMap AV.cells := by rw [← hxl]; simp
      rw [e1]
      refine hK _ _ ⟨σ0.set b' (some (.obj (ownRow s z (xs.flatMap AV.cells ++ ys.flatMap AV.cells) (xs.length + ys.length) c'))), ?_, .inr ⟨b', c', zrow s z (xs.length + ys.length) c', by simp, by simpa using hc', by rw [zrow_len, List.length_append], hb0, ?_⟩⟩
      · rw [set_swap m2]
        exact Drop.set (by rw [ASt.set_ne m2]; exact hb)
      · rw [ownRow_z, List.flatMap_append]
theorem OwnSl.at {σ0 σ : ASt} {x : Nat} {r : Role} {v : AV} {xs : List AV} {s : Nat} (h : OwnSl σ0 σ v xs s) (hx : σ0 x = some r) : σ x = some r := by
  rcases h with ⟨_, _, rfl⟩ | ⟨b, c, rest, _, _, _, hb, rfl⟩
  · exact hx
  · rw [ASt.set_ne]
    · exact hx
    · rintro rfl; rw [hb] at hx; cases hx
theorem OwnSl.fresh {σ0 σ : ASt} {x : Nat} {v : AV} {xs : List AV} {s : Nat} (h : OwnSl σ0 σ v xs s) (hx : σ x = none) : σ0 x = none := by
  cases hr : σ0 x with
  | none => rfl
  | some r => rw [h.at hr] at hx; cases hx
theorem OwnSl.add {σ0 σ : ASt} {d : Nat} {r : Option Role} {v : AV} {xs : List AV} {s : Nat} (h : OwnSl σ0 σ v xs s) (hd : σ d = none) : OwnSl (σ0.set d r) (σ.set d r) v xs s := by
  rcases h with ⟨h1, h2, rfl⟩ | ⟨b, c, rest, h1, h2, h3, h4, rfl⟩
  · exact .inl ⟨h1, h2, rfl⟩
  · obtain ⟨h5, h6, h7⟩ := set_none hd
    exact .inr ⟨b, c, rest, h1, h2, h3, by rw [ASt.set_ne h6]; exact h4, set_swap h6⟩
theorem OwnSl.less {σ0 σ : ASt} {e : Nat} {E : Role} {v : AV} {xs : List AV} {s : Nat} (h : OwnSl (σ0.set e (some E)) σ v xs s) (he : σ0 e = none) : ∃ σ', Drop σ σ' ∧ OwnSl σ0 σ' v xs s := by
  rcases h with ⟨h1, h2, rfl⟩ | ⟨b, c, rest, h1, h2, h3, h4, rfl⟩
  · exact ⟨σ0, Drop.set he, .inl ⟨h1, h2, rfl⟩⟩
  · obtain ⟨h5, h6, h7⟩ := set_none h4
    refine ⟨σ0.set b (some (.obj (xs.flatMap AV.cells ++ rest))), ?_, .inr ⟨b, c, rest, h1, h2, h3, h7, rfl⟩⟩
    rw [set_swap h6]
    exact Drop.set (by rw [ASt.set_ne h6]; exact he)
theorem OwnSl.fz {σ0 σ σ' : ASt} {v : AV} {xs : List AV} {s : Nat} (h : OwnSl σ0 σ v xs s) (hx : ∀ x ∈ xs, x.cells.length = s) (hn : ∀ b, σ0 b = none → σ' b = none) : Fz σ σ' v (.sl .shr xs) := by
  rcases h with ⟨rfl, rfl, rfl⟩ | ⟨b, c, rest, rfl, h2, h3, h4, rfl⟩
  · exact .sl _ _
  · have hxl : (xs.flatMap AV.cells).length = xs.length * s := lens_flat hx
    refine .msl 0 _ c s xs (ASt.set_same _ _ _) (hn _ h4) rfl h2 hx ?_
    rw [List.drop_zero, ← hxl, List.take_left]
end Go.A
namespace Go.A
open Go.Proofs Go.Lib
set_option maxRecDepth 100000
set_option linter.unusedSimpArgs false
set_option linter.unusedVariables false
mutual
def Nd.same : Nd → Nd → Bool
  | .mk o n s a b ks, .mk o' n' s' a' b' ks' => decide (o = o') && decide (n = n') && decide (s = s') && decide (a = a') && decide (b = b') && Nd.sames ks ks'
def Nd.sames : List Nd → List Nd → Bool
  | [], [] => true
  | [], _ :: _ => false
  | _ :: _, [] => false
  | x :: xs, y :: ys => Nd.same x y && Nd.sames xs ys
end
mutual
theorem Nd.same_eq : ∀ (x y : Nd), Nd.same x y = true → x = y
  | .mk o n s a b ks, .mk o' n' s' a' b' ks', h => by
    rw [Nd.same] at h
    simp only [Bool.and_eq_true, decide_eq_true_eq] at h
    obtain ⟨⟨⟨⟨⟨rfl, rfl⟩, rfl⟩, rfl⟩, rfl⟩, h⟩ := h
    rw [Nd.sames_eq ks ks' h]
theorem Nd.sames_eq : ∀ (xs ys : List Nd), Nd.sames xs ys = true → xs = ys
  | [], [], _ => rfl
  | [], _ :: _, h => by cases h
  | _ :: _, [], h => by cases h
  | x :: xs, y :: ys, h => by
    rw [Nd.sames, Bool.and_eq_true] at h
    rw [Nd.same_eq x y h.1, Nd.sames_eq xs ys h.2]
end
mutual
theorem Nd.same_refl : ∀ x : Nd, Nd.same x x = true
  | .mk o n s a b ks => by rw [Nd.same, Nd.sames_refl ks]; simp
theorem Nd.sames_refl : ∀ xs : List Nd, Nd.sames xs xs = true
  | [] => rfl
  | x :: xs => by rw [Nd.sames, Nd.same_refl x, Nd.sames_refl xs]; rfl
end
theorem Nd.sames_len : ∀ {xs ys : List Nd}, Nd.sames xs ys = true → xs.length = ys.length := fun h => by rw [Nd.sames_eq _ _ h]
theorem Nd.sames_get {xs ys : List Nd} {i : Nat} {x y : Nd} (hx : xs[i]? = some x) (hy : ys[i]? = some y) (h : Nd.sames xs ys = true) : Nd.same x y = true := by
  rw [Nd.sames_eq _ _ h, hy] at hx
  injection hx with hx
  rw [hx]; exact Nd.same_refl _
theorem Nd.sames_all : ∀ {xs ys : List Nd}, xs.length = ys.length → (∀ (i : Nat) x y, xs[i]? = some x → ys[i]? = some y → Nd.same x y = true) → Nd.sames xs ys = true
  | [], [], _, _ => rfl
  | [], _ :: _, h, _ => by simp at h
  | _ :: _, [], h, _ => by simp at h
  | x :: xs, y :: ys, h, hs => by
    rw [Nd.sames, hs 0 x y rfl rfl, Nd.sames_all (by simpa using h) fun i u v hu hv => hs (i + 1) u v (by simpa using hu) (by simpa using hv)]
    rfl
theorem equal_ok (xs ys : List Nd) (hl : xs.length ≤ 1000000000 ∧ ys.length ≤ 1000000000) (ih : ∀ x ∈ xs, ∀ y ∈ ys, Pure Tryz.prog 11 [x.av, y.av] (.bool (Nd.same x y))) :
    Pure Tryz.prog 39 [.sl .shr (xs.map Nd.av), .sl .shr (ys.map Nd.av), .func (.func 11) [] []] (.bool (Nd.sames xs ys)) := by
  intro σ
  refine a39 (by simp) ?_
  by_cases hne : xs.length = ys.length
  · have hne' : ¬ ((xs.length : Int) ≠ ys.length) := by omega
    have hne2 : (xs.length : Int) = ys.length := by omega
    simp (disch := first | assumption | omega | (simp only [List.length_append, List.length_cons, List.length_nil]; omega)) only [go_sem, reduceCtorEq, Nat.reduceEqDiff, ↓reduceIte, hne2]
    refine wp_loop_by (fun (i : Nat) a1 s2 => (i ≤ xs.length ∧ ∀ k x y, k < i → xs[k]? = some x → ys[k]? = some y → Nd.same x y = true) ∧ (a1 1 = .sl .shr (ys.map Nd.av) ∧ a1 2 = .func (.func 11) [] [] ∧ a1 15 = .sl .shr (xs.map Nd.av) ∧ a1 16 = .int .i64 xs.length ∧ a1 17 = .int .i64 i) ∧ s2 = σ) (fun i => xs.length - i) 0 (Dr.now ⟨⟨Nat.zero_le _, fun k x y h => by omega⟩, ?_, rfl⟩) ?_
    · simp (disch := first | assumption | omega | (simp only [List.length_append, List.length_cons, List.length_nil]; omega)) only [go_sem, Nat.reduceEqDiff, ↓reduceIte, hne2]
    rintro i a1 s2 ⟨⟨hi, hall⟩, hf, rfl⟩
    by_cases hlt : i < xs.length
    · have hlt' : (i : Int) < xs.length := by omega
      have hx : xs[i]? = some (xs[i]'hlt) := List.getElem?_eq_getElem hlt
      have hy : ys[i]? = some (ys[i]'(by omega)) := List.getElem?_eq_getElem (by omega)
      have hih := ih _ (List.getElem_mem hlt) _ (List.getElem_mem (h := by omega) : ys[i]'(by omega) ∈ ys)
      obtain ⟨x, hxe⟩ : ∃ x, xs[i]'hlt = x := ⟨_, rfl⟩
      obtain ⟨y, hye⟩ : ∃ y, ys[i]'(by omega) = y := ⟨_, rfl⟩
      rw [hxe] at hx hih
      rw [hye] at hy hih
      have hmx := Nd.get hx
      have hmy := Nd.get hy
      obtain ⟨r, hr⟩ : ∃ r, Nd.same x y = r := ⟨_, rfl⟩
      rw [hr] at hih
      obtain ⟨xo, xm, xs', xa, xb, xk⟩ := x
      obtain ⟨yo, ym, ys', ya, yb, yk⟩ := y
      rw [Nd.av_cs] at hmx
      rw [Nd.av_cs] at hmy
      rw [Nd.av_cs, Nd.av_cs] at hih
      generalize xk.map Nd.av = XK at *
      generalize yk.map Nd.av = YK at *
      generalize hXL : xs.map Nd.av = XL at *
      generalize hYL : ys.map Nd.av = YL at *
      have hok : okFn Tryz.prog 11 = true := by kernel_rfl
      simp (disch := first | assumption | omega | (simp only [List.length_append, List.length_cons, List.length_nil]; omega)) only [go_sem, Nat.reduceEqDiff, Nat.reduceLeDiff, ↓reduceIte, hf, hlt', hmx]
      refine allocC_by fun d hd => ?_
      have hd0 := hd
      simp (disch := first | assumption | omega | (simp only [List.length_append, List.length_cons, List.length_nil]; omega)) only [go_sem, Nat.reduceEqDiff, Nat.reduceAdd, Nat.reduceLeDiff, ↓reduceIte, hf, hmy, ASt.set_set]
      refine allocC_by fun e he => ?_
      have he0 := he
      repeat (with_reducible replace he := set_none he; obtain ⟨_, _, he⟩ := he)
      simp (disch := first | assumption | omega | (simp only [List.length_append, List.length_cons, List.length_nil]; omega)) only [go_sem, Nat.reduceEqDiff, Nat.reduceAdd, Nat.reduceLeDiff, ↓reduceIte, hf, ASt.set_set]
      refine ⟨hok, hih.use ?_⟩
      cases r with
      | true =>
        simp (disch := first | assumption | omega | (simp only [List.length_append, List.length_cons, List.length_nil]; omega)) only [go_sem, Nat.reduceEqDiff, ↓reduceIte, hf]
        refine ⟨i + 1, by dsimp only; omega, Dr.drop ((Drop.set hd).off (by assumption)) ⟨⟨by omega, fun k u v hk hu hv => ?_⟩, ?_, rfl⟩⟩
        · by_cases hki : k = i
          · subst hki
            rw [hx] at hu; rw [hy] at hv
            injection hu with hu; injection hv with hv
            subst hu hv; exact hr
          · exact hall k u v (by omega) hu hv
        · simp (disch := first | assumption | omega | (simp only [List.length_append, List.length_cons, List.length_nil]; omega)) only [go_sem, Nat.reduceEqDiff, ↓reduceIte, hf]
      | false =>
        have hfin : Nd.sames xs ys = false := by
          cases h : Nd.sames xs ys with
          | false => rfl
          | true => rw [Nd.sames_get hx hy h] at hr; cases hr
        simp (disch := first | assumption | omega | (simp only [List.length_append, List.length_cons, List.length_nil]; omega)) only [go_sem, ↓reduceIte]
        exact retC_by ((Drop.set hd).off (by assumption)) (.refl _) ⟨by rw [hfin]; rfl, rfl⟩
    · have hlt' : ¬ (i : Int) < xs.length := by omega
      have hfin : Nd.sames xs ys = true := Nd.sames_all hne fun k u v hu hv => hall k u v (by have := (List.getElem?_eq_some_iff.1 hu).1; omega) hu hv
      simp (disch := first | assumption | omega | (simp only [List.length_append, List.length_cons, List.length_nil]; omega)) only [go_sem, ↓reduceIte, hf, hlt']
      exact retC_by (Drop.refl _) (.refl _) ⟨by rw [hfin]; rfl, rfl⟩
  · have hne2 : ¬ (xs.length : Int) = ys.length := by omega
    have hfin : Nd.sames xs ys = false := by
      cases h : Nd.sames xs ys with
      | false => rfl
      | true => exact absurd (Nd.sames_len h) hne
    simp (disch := first | assumption | omega | (simp only [List.length_append, List.length_cons, List.length_nil]; omega)) only [go_sem, reduceCtorEq, Nat.reduceEqDiff, ↓reduceIte, hne2]
    exact retC_by (Drop.refl _) (.refl _) ⟨by rw [hfin]; rfl, rfl⟩
theorem ref_ne {a b : Ref} (h : a ≠ b) : (decide (a.row = b.row) && (decide (a.col = b.col) && (decide (a.absRow = b.absRow) && decide (a.absCol = b.absCol)))) = false := by
  obtain ⟨a1, a2, a3, a4⟩ := a
  obtain ⟨b1, b2, b3, b4⟩ := b
  cases hd : (decide (a1 = b1) && (decide (a2 = b2) && (decide (a3 = b3) && decide (a4 = b4)))) with
  | false => rfl
  | true =>
    simp only [Bool.and_eq_true, decide_eq_true_eq] at hd
    obtain ⟨rfl, rfl, rfl, rfl⟩ := hd
    exact absurd rfl h
theorem esame_le : ∀ (k : Nat) (x y : Nd), x.size ≤ k → x.size ≤ 1000000000 → y.size ≤ 1000000000 → Pure Tryz.prog 11 [x.av, y.av] (.bool (Nd.same x y))
  | 0, x, y, hk, _, _ => by have := x.size_pos; omega
  | k + 1, x, y, hk, hx, hy => by
    intro σ
    obtain ⟨o, n, s, a, b, ks⟩ := x
    obtain ⟨o', n', s', a', b', ks'⟩ := y
    rw [Nd.size] at hk hx hy
    have l1 := sizes_len ks
    have l2 := sizes_len ks'
    have hE := equal_ok ks ks' ⟨by omega, by omega⟩ fun u hu v hv => by
      have h1 := Nd.size_kid hu
      have h2 := Nd.size_kid hv
      exact esame_le k u v (by omega) (by omega) (by omega)
    rw [Nd.av_cs, Nd.av_cs, Nd.same]
    generalize Nd.sames ks ks' = r at *
    generalize ks.map Nd.av = L at *
    generalize ks'.map Nd.av = L' at *
    refine a11 (by simp) ?_
    simp (disch := first | assumption | omega | (simp only [List.length_append, List.length_cons, List.length_nil]; omega)) only [go_sem]
    refine boxC_by rfl fun c hc => ?_
    simp (disch := first | assumption | omega | (simp only [List.length_append, List.length_cons, List.length_nil]; omega)) only [go_sem, Nat.reduceEqDiff, ↓reduceIte]
    refine boxC_by rfl fun d hd => ?_
    have hd0 := hd
    repeat (with_reducible replace hd := set_none hd; obtain ⟨_, _, hd⟩ := hd)
    have hD : ∀ r r' : Option Role, Drop ((σ.set c r).set d r') σ := fun r r' => (Drop.set hc).off (by assumption)
    by_cases h1 : o = o'
    · by_cases h2 : n = n'
      · by_cases h3 : s = s'
        · by_cases h4 : a = a'
          · by_cases h5 : b = b'
            · subst h1 h2 h3 h4 h5
              simp (disch := first | assumption | omega | (simp only [List.length_append, List.length_cons, List.length_nil]; omega)) only [go_sem, Nat.reduceEqDiff, Nat.reduceAdd, Nat.reduceLeDiff, ↓reduceIte, Bool.true_and, eq_self]
              refine hE.use ?_
              simp (disch := first | assumption | omega | (simp only [List.length_append, List.length_cons, List.length_nil]; omega)) only [go_sem, Nat.reduceEqDiff, ↓reduceIte, eq_self]
              refine retC_by (hD _ _) (.refl _) ⟨?_, rfl⟩
              first | rfl | (show AV.bool _ = AV.bool _; simp)
            · have h5' := ref_ne h5
              subst h1 h2 h3 h4
              simp (disch := first | assumption | omega | (simp only [List.length_append, List.length_cons, List.length_nil]; omega)) only [go_sem, Nat.reduceEqDiff, Nat.reduceAdd, Nat.reduceLeDiff, ↓reduceIte, Bool.true_and, Bool.false_and, Bool.and_false, eq_self, h5']
              refine retC_by (hD _ _) (.refl _) ⟨?_, rfl⟩
              first | rfl | (show AV.bool _ = AV.bool _; simp [h5])
          · have h4' := ref_ne h4
            subst h1 h2 h3
            simp (disch := first | assumption | omega | (simp only [List.length_append, List.length_cons, List.length_nil]; omega)) only [go_sem, Nat.reduceEqDiff, Nat.reduceAdd, Nat.reduceLeDiff, ↓reduceIte, Bool.true_and, Bool.false_and, Bool.and_false, eq_self, h4']
            refine retC_by (hD _ _) (.refl _) ⟨?_, rfl⟩
            first | rfl | (show AV.bool _ = AV.bool _; simp [h4])
        · subst h1 h2
          simp (disch := first | assumption | omega | (simp only [List.length_append, List.length_cons, List.length_nil]; omega)) only [go_sem, Nat.reduceEqDiff, ↓reduceIte, Bool.true_and, Bool.false_and, Bool.and_false, eq_self, h3]
          refine retC_by (hD _ _) (.refl _) ⟨?_, rfl⟩
          first | rfl | (show AV.bool _ = AV.bool _; simp [h3])
      · subst h1
        simp (disch := first | assumption | omega | (simp only [List.length_append, List.length_cons, List.length_nil]; omega)) only [go_sem, Nat.reduceEqDiff, ↓reduceIte, Bool.false_and, Bool.and_false, eq_self, h2]
        refine retC_by (hD _ _) (.refl _) ⟨?_, rfl⟩
        first | rfl | (show AV.bool _ = AV.bool _; simp [h2])
    · simp (disch := first | assumption | omega | (simp only [List.length_append, List.length_cons, List.length_nil]; omega)) only [go_sem, Nat.reduceEqDiff, ↓reduceIte, Bool.false_and, h1]
      refine retC_by (hD _ _) (.refl _) ⟨?_, rfl⟩
      first | rfl | (show AV.bool _ = AV.bool _; simp [h1])
theorem esame_ok (x y : Nd) (hx : x.size ≤ 1000000000) (hy : y.size ≤ 1000000000) : Pure Tryz.prog 11 [x.av, y.av] (.bool (Nd.same x y)) := esame_le x.size x y (Nat.le_refl _) hx hy
end Go.A
namespace Go.A
open Go.Proofs Go.Lib
set_option maxRecDepth 100000
set_option linter.unusedSimpArgs false
set_option linter.unusedVariables false
structure Rc where
  row : Int
  col : Int
  rows : Int
  cols : Int
  deriving DecidableEq, Inhabited
end Go.A
